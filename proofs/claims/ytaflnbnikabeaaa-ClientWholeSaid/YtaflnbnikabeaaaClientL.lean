/- The walks of the laws of the client: steps, whole frames. -/
import Derived.Test.YtaflnbnikabeaaaClient
set_option linter.unusedVariables false
set_option linter.unusedSimpArgs false
namespace Go.Proofs.Ytaflnbnikabeaaa.Client
open Go Go.RowKit Go.Proofs.YtaflnbnikabeaaaV Go.Proofs.Ytaflnbnikabeaaa
theorem new_sane (w : World) : Calls Try.prog 40 [.int .i64 1].toArray w (Val (.tuple #[.agg #[.int .i64 1, .int .i64 0, .int .i64 0, .int .i64 0, .bool false], .int .i64 0]) w) := new_c 1 w
theorem wrote_sane (w : World) : Calls Try.prog 36 [.agg #[.int .i64 1, .int .i64 0, .int .i64 0, .int .i64 0, .bool false], .int .i64 100].toArray w (Val (.tuple #[.agg #[.int .i64 1, .int .i64 100, .int .i64 0, .int .i64 0, .bool false], .int .i64 0]) w) := wrote_any _ _ _ _ _ _ w
theorem tick_sane1 (w : World) : Calls Try.prog 38 [.agg #[.int .i64 1, .int .i64 100, .int .i64 0, .int .i64 0, .bool false], .int .i64 64].toArray w (Val (.tuple #[.agg #[.int .i64 1, .int .i64 100, .int .i64 64, .int .i64 0, .bool false], .int .i64 0, .int .i64 0]) w) := tick_any _ _ _ _ _ _ w (by decide)
theorem tick_sane2 (w : World) : Calls Try.prog 38 [.agg #[.int .i64 1, .int .i64 100, .int .i64 64, .int .i64 0, .bool false], .int .i64 64].toArray w (Val (.tuple #[.agg #[.int .i64 1, .int .i64 100, .int .i64 100, .int .i64 1, .bool false], .int .i64 28, .int .i64 0]) w) := tick_any _ _ _ _ _ _ w (by decide)
theorem tick_sane3 (w : World) : Calls Try.prog 38 [.agg #[.int .i64 1, .int .i64 100, .int .i64 100, .int .i64 1, .bool false], .int .i64 64].toArray w (Val (.tuple #[.agg #[.int .i64 1, .int .i64 100, .int .i64 100, .int .i64 2, .bool false], .int .i64 64, .int .i64 0]) w) := tick_any _ _ _ _ _ _ w (by decide)
theorem state_sane1 (w : World) : Calls Try.prog 32 [.agg #[.int .i64 1, .int .i64 100, .int .i64 100, .int .i64 1, .bool false]].toArray w (Val (.int .i64 2) w) := state_any _ _ _ _ _ w
theorem state_sane2 (w : World) : Calls Try.prog 32 [.agg #[.int .i64 1, .int .i64 100, .int .i64 100, .int .i64 2, .bool false]].toArray w (Val (.int .i64 3) w) := state_any _ _ _ _ _ w

theorem sane_client  (w : World) : Calls Try.prog 28 [].toArray w (Val (.bool true) w) := by
  refine calls_body (n := 57) Try.func28 rfl rfl rfl (St.init _ []) ?_
  refine cd_seq ?_
  refine cd_region ?_
  refine at_pure (pv_assign rfl) rfl ?_
  refine at_nil ?_
  refine ex_go ?_
  refine cd_seq ?_
  refine cd_region ?_
  refine at_does (does_val cal40 rfl rfl rfl (fun w hs => new_sane w)) rfl (fun _ => ?_)
  refine at_pure (pv_move rfl) rfl ?_
  refine at_pure (pv_extract rfl rfl) rfl ?_
  refine at_pure (pv_extract rfl rfl) rfl ?_
  refine at_does (does_alloc ze_54 .agg (fun _ => .nil)) rfl (fun g1 => ?_)
  refine at_turns (by exact turns_store sz_54 rfl rfl .agg rfl rfl .z (.rep (.rep (.rep (.rep (.rep .done))))) .z) ?_
  refine at_pure (pv_assign rfl) rfl ?_
  refine at_nil ?_
  refine ex_go ?_
  refine cd_seq ?_
  refine cd_region ?_
  refine at_pure (by exact pv_loads_box ag_54 rfl .z (.take (.take (.take (.take (.take .done)))))) rfl ?_
  refine at_does (does_val cal36 rfl rfl rfl (fun w hs => wrote_sane w)) rfl (fun _ => ?_)
  refine at_pure (pv_move rfl) rfl ?_
  refine at_pure (pv_extract rfl rfl) rfl ?_
  refine at_pure (pv_extract rfl rfl) rfl ?_
  refine at_turns (by exact turns_store sz_54 rfl rfl .agg rfl rfl .z (.rep (.rep (.rep (.rep (.rep .done))))) .z) ?_
  refine at_nil ?_
  refine ex_go ?_
  refine cd_seq ?_
  refine cd_region ?_
  refine at_pure (by exact pv_loads_box ag_54 rfl .z (.take (.take (.take (.take (.take .done)))))) rfl ?_
  refine at_does (does_val cal38 rfl rfl rfl (fun w hs => tick_sane1 w)) rfl (fun _ => ?_)
  refine at_pure (pv_move rfl) rfl ?_
  refine at_pure (pv_extract rfl rfl) rfl ?_
  refine at_pure (pv_extract rfl rfl) rfl ?_
  refine at_pure (pv_extract rfl rfl) rfl ?_
  refine at_turns (by exact turns_store sz_54 rfl rfl .agg rfl rfl .z (.rep (.rep (.rep (.rep (.rep .done))))) .z) ?_
  refine at_pure (pv_assign rfl) rfl ?_
  refine at_pure (pv_assign rfl) rfl ?_
  refine at_nil ?_
  refine ex_go ?_
  refine cd_seq ?_
  refine cd_region ?_
  refine at_pure (by exact pv_loads_box ag_54 rfl .z (.take (.take (.take (.take (.take .done)))))) rfl ?_
  refine at_does (does_val cal38 rfl rfl rfl (fun w hs => tick_sane2 w)) rfl (fun _ => ?_)
  refine at_pure (pv_move rfl) rfl ?_
  refine at_pure (pv_extract rfl rfl) rfl ?_
  refine at_pure (pv_extract rfl rfl) rfl ?_
  refine at_pure (pv_extract rfl rfl) rfl ?_
  refine at_turns (by exact turns_store sz_54 rfl rfl .agg rfl rfl .z (.rep (.rep (.rep (.rep (.rep .done))))) .z) ?_
  refine at_pure (pv_assign rfl) rfl ?_
  refine at_pure (pv_assign rfl) rfl ?_
  refine at_nil ?_
  refine ex_go ?_
  refine cd_seq ?_
  refine cd_region ?_
  refine at_pure (by exact pv_loads_box ag_54 rfl .z (.take (.take (.take (.take (.take .done)))))) rfl ?_
  refine at_does (does_val cal38 rfl rfl rfl (fun w hs => tick_sane3 w)) rfl (fun _ => ?_)
  refine at_pure (pv_move rfl) rfl ?_
  refine at_pure (pv_extract rfl rfl) rfl ?_
  refine at_pure (pv_extract rfl rfl) rfl ?_
  refine at_pure (pv_extract rfl rfl) rfl ?_
  refine at_does (does_alloc ze_54 .agg (fun _ => (.cons .nil))) rfl (fun g2 => ?_)
  refine at_turns (by exact turns_store sz_54 rfl rfl .agg rfl rfl (.s .z) (.rep (.rep (.rep (.rep (.rep .done))))) (.s .z)) ?_
  refine at_pure (pv_assign rfl) rfl ?_
  refine at_pure (pv_assign rfl) rfl ?_
  refine at_nil ?_
  refine ex_go ?_
  refine cd_seq ?_
  refine cd_region ?_
  refine at_pure (pv_move rfl) rfl ?_
  refine at_pure (pv_eql rfl rfl) rfl ?_
  refine at_pure (pv_move rfl) rfl ?_
  refine at_pure_g rfl rfl rfl (pv_move rfl) rfl ?_
  refine at_pure_g rfl rfl rfl (pv_eql rfl rfl) rfl ?_
  refine at_pure (pv_pick_t rfl rfl rfl) rfl ?_
  refine at_pure (pv_move rfl) rfl ?_
  refine at_pure_g rfl rfl rfl (by exact pv_loads_box ag_54 rfl .z (.take (.take (.take (.take (.take .done)))))) rfl ?_
  refine at_does_g rfl rfl rfl (does_val cal32 rfl rfl rfl (fun w hs => state_sane1 w)) rfl (fun _ => ?_)
  refine at_pure_g rfl rfl rfl (pv_eql rfl rfl) rfl ?_
  refine at_pure (pv_pick_t rfl rfl rfl) rfl ?_
  refine at_pure (pv_move rfl) rfl ?_
  refine at_pure_g rfl rfl rfl (pv_move rfl) rfl ?_
  refine at_pure_g rfl rfl rfl (pv_eql rfl rfl) rfl ?_
  refine at_pure (pv_pick_t rfl rfl rfl) rfl ?_
  refine at_pure (pv_move rfl) rfl ?_
  refine at_pure_g rfl rfl rfl (by exact pv_loads_box ag_54 rfl (.s .z) (.take (.take (.take (.take (.take .done)))))) rfl ?_
  refine at_does_g rfl rfl rfl (does_val cal32 rfl rfl rfl (fun w hs => state_sane2 w)) rfl (fun _ => ?_)
  refine at_pure_g rfl rfl rfl (pv_eql rfl rfl) rfl ?_
  refine at_pure (pv_pick_t rfl rfl rfl) rfl ?_
  refine at_pure (pv_assign rfl) rfl ?_
  refine at_nil ?_
  refine ex_go ?_
  refine cd_ret ?_
  exact end_ret1 rfl rfl (fun w hs => Val.mk hs)

theorem made_any (a : Option Addr) (len cap : Nat) (w : World) (hI : Ints [] w a len) (hl : len ≤ 17592186044416) : Calls Try.prog 29 [.slice a len cap].toArray w (Some' (fun z : Int × Int × Int × Int × Bool => .agg #[.int .i64 z.1, .int .i64 z.2.1, .int .i64 z.2.2.1, .int .i64 z.2.2.2.1, .bool z.2.2.2.2]) (fun _ => True) w) := by
  refine calls_body (n := 45) Try.func29 rfl rfl rfl (St.init _ []) ?_
  refine cd_seq ?_
  refine cd_region ?_
  refine at_does (does_alloc ze_54 .agg (fun _ => .nil)) rfl (fun g1 => ?_)
  refine at_nil ?_
  refine ex_go ?_
  refine cd_seq ?_
  refine cd_region ?_
  refine at_pure (pv_move rfl) rfl ?_
  refine at_does (does_gives (X := Nat) (val := fun g => Value.pointer (some ⟨g, 0, none⟩)) (Δ := fun g => [Box g [.slice a len cap, .int .i64 0] 75]) cal43 rfl rfl (args := [.slice a len cap]) rfl (fun w hs => new_any a len cap w) (fun _ => .cons .nil)) rfl (fun gd => ?_)
  refine at_pure (pv_assign rfl) rfl ?_
  refine at_nil ?_
  refine ex_go ?_
  refine cd_seq ?_
  refine cd_region ?_
  refine at_pure (pv_move rfl) rfl ?_
  refine at_hand (does_hand cal45 rfl rfl rfl (.s .z) (fun w hs => next_any gd a len cap 0 4 w (hs.box (i := 1) rfl) (hI.beside hs (.s .z)) (by omega) hl (by omega)) (fun _ => (.s .z))) rfl (fun x1 p1 hx1 => ?_)
  obtain ⟨h1a, h1b, h1c⟩ := hx1
  have h1d : 0 ≤ p1 ∧ p1 ≤ len := by rw [h1c]; split <;> omega
  clear h1c
  refine at_does (does_val cal41 rfl rfl rfl (fun w hs => new_ref _ w)) rfl (fun _ => ?_)
  refine at_pure (pv_move rfl) rfl ?_
  refine at_pure (pv_extract rfl rfl) rfl ?_
  refine at_pure (pv_extract rfl rfl) rfl ?_
  refine at_does (does_alloc ze_54 .agg (fun _ => (.cons (.cons .nil)))) rfl (fun g2 => ?_)
  refine at_turns (by exact turns_store sz_54 rfl rfl .agg rfl rfl (.s (.s .z)) (.rep (.rep (.rep (.rep (.rep .done))))) (.s (.s .z))) ?_
  refine at_pure (pv_assign rfl) rfl ?_
  refine at_nil ?_
  refine ex_go ?_
  refine cd_cut (σ := Int × Int × Int × Int × Bool × Int) (fun s => [(2, Value.pointer (some ⟨g1, 0, none⟩)), (3, Value.pointer (some ⟨gd, 0, none⟩)), (4, Value.pointer (some ⟨g2, 0, none⟩))]) (fun s => [Box g1 [.int .i64 0, .int .i64 0, .int .i64 0, .int .i64 0, .bool false] 54, Box gd [.slice a len cap, .int .i64 s.2.2.2.2.2] 75, Box g2 [.int .i64 s.1, .int .i64 s.2.1, .int .i64 s.2.2.1, .int .i64 s.2.2.2.1, .bool s.2.2.2.2.1] 54]) (fun s => 0 ≤ s.2.2.2.2.2 ∧ s.2.2.2.2.2 ≤ len) ?_ ?_
  · skip
    refine cd_seq ?_
    refine cd_region ?_
    refine at_pure (pv_move rfl) rfl ?_
    refine at_hand (does_hand cal45 rfl rfl rfl (.s .z) (fun w hs => next_any gd a len cap p1 10 w (hs.box (i := 1) rfl) (hI.beside hs (.s .z)) (by omega) hl (by omega)) (fun _ => (.s .z))) rfl (fun x2 p2 hx2 => ?_)
    obtain ⟨h2a, h2b, h2c⟩ := hx2
    have h2d : 0 ≤ p2 ∧ p2 ≤ len := by rw [h2c]; split <;> omega
    clear h2c
    refine at_pure (pv_assign rfl) rfl ?_
    refine at_nil ?_
    refine ex_go ?_
    refine cd_block ?_
    refine cd_loop (σ := Int × Int × Int × Int × Bool × Int × Int) (fun s => [(2, Value.pointer (some ⟨g1, 0, none⟩)), (3, Value.pointer (some ⟨gd, 0, none⟩)), (4, Value.pointer (some ⟨g2, 0, none⟩)), (6, .int .i64 s.2.2.2.2.2.2)]) (fun s => [Box g1 [.int .i64 0, .int .i64 0, .int .i64 0, .int .i64 0, .bool false] 54, Box gd [.slice a len cap, .int .i64 s.2.2.2.2.2.1] 75, Box g2 [.int .i64 s.1, .int .i64 s.2.1, .int .i64 s.2.2.1, .int .i64 s.2.2.2.1, .bool s.2.2.2.2.1] 54]) (fun s => 0 ≤ s.2.2.2.2.2.1 ∧ s.2.2.2.2.2.1 ≤ len ∧ s.2.2.2.2.2.2 ≤ 10) (fun s => s.2.2.2.2.2.2.toNat) (_, _, _, _, _, p2, x2) (by dsimp only; omega) ⟨rfl, rfl, rfl, rfl, trivial⟩ (List.Sublist.refl _) ?_
    rintro ⟨x, y, z, u, e, p, i⟩ ⟨hp1, hp2, hi⟩
    dsimp only at hp1 hp2 hi ⊢
    refine cd_seq ?_
    refine cd_seq ?_
    refine cd_region ?_
    refine at_pure (pv_move rfl) rfl ?_
    refine at_pure (pv_gtr rfl rfl) rfl ?_
    refine at_nil ?_
    refine ex_go ?_
    refine cd_if rfl (fun hl0 => ?_) (fun hl0 => ?_)
    · skip
      refine cd_skip ?_
      refine ex_go ?_
      refine cd_seq ?_
      refine cd_block ?_
      refine cd_seq ?_
      have hi0 : 0 < i := by simpa using hl0
      refine cd_region ?_
      refine at_pure (pv_move rfl) rfl ?_
      refine at_hand (does_hand cal45 rfl rfl rfl (.s .z) (fun w hs => next_any gd a len cap p 2 w (hs.box (i := 1) rfl) (hI.beside hs (.s .z)) (by omega) hl (by omega)) (fun _ => (.s .z))) rfl (fun x3 p3 hx3 => ?_)
      obtain ⟨h3a, h3b, h3c⟩ := hx3
      have h3d : 0 ≤ p3 ∧ p3 ≤ len := by rw [h3c]; split <;> omega
      clear h3c
      refine at_pure (pv_eql rfl rfl) rfl ?_
      refine at_nil ?_
      refine ex_go ?_
      refine cd_if rfl (fun hb2 => ?_) (fun hb2 => ?_)
      · skip
        refine cd_draw 8 [] follows ?_
        refine dr_take 1 rfl (by kernel_rfl) (by first | exact List.Sublist.refl _ | (repeat first | exact List.Sublist.slnil | exact List.nil_sublist _ | apply List.Sublist.cons_cons | apply List.Sublist.cons)) (pv_move rfl) rfl ?_
        refine dr_two 0 2 (by kernel_rfl) rfl rfl ?_ ?_
        · skip
          refine at_pure (by exact pv_loads_box ag_54 rfl (.s (.s .z)) (.take (.take (.take (.take (.take .done)))))) rfl ?_
          refine at_nil (dr_next (fun _ => (by first | exact List.Sublist.refl _ | (repeat first | exact List.Sublist.slnil | exact List.nil_sublist _ | apply List.Sublist.cons_cons | apply List.Sublist.cons))) ?_)
          refine dr_one 2 (by kernel_rfl) rfl ?_
          refine at_hand (does_hand cal45 rfl rfl rfl (.s .z) (fun w hs => next_any gd a len cap p3 100 w (hs.box (i := 1) rfl) (hI.beside hs (.s .z)) (by omega) hl (by omega)) (fun _ => (.s .z))) rfl (fun x4 p4 hx4 => ?_)
          obtain ⟨h4a, h4b, h4c⟩ := hx4
          have h4d : 0 ≤ p4 ∧ p4 ≤ len := by rw [h4c]; split <;> omega
          clear h4c
          refine at_nil (dr_next (fun _ => (by first | exact List.Sublist.refl _ | (repeat first | exact List.Sublist.slnil | exact List.nil_sublist _ | apply List.Sublist.cons_cons | apply List.Sublist.cons))) ?_)
          refine dr_one 3 (by kernel_rfl) rfl ?_
          refine at_does (does_val cal37 rfl rfl rfl (fun w hs => wrote_ref _ _ _ _ _ _ w)) rfl (fun _ => ?_)
          refine at_nil (dr_next (fun _ => (by first | exact List.Sublist.refl _ | (repeat first | exact List.Sublist.slnil | exact List.nil_sublist _ | apply List.Sublist.cons_cons | apply List.Sublist.cons))) ?_)
          refine dr_take 4 rfl (by kernel_rfl) (by first | exact List.Sublist.refl _ | (repeat first | exact List.Sublist.slnil | exact List.nil_sublist _ | apply List.Sublist.cons_cons | apply List.Sublist.cons)) (pv_move rfl) rfl ?_
          refine dr_take 5 rfl (by kernel_rfl) (by first | exact List.Sublist.refl _ | (repeat first | exact List.Sublist.slnil | exact List.nil_sublist _ | apply List.Sublist.cons_cons | apply List.Sublist.cons)) (pv_extract rfl rfl) rfl ?_
          refine dr_take 6 rfl (by kernel_rfl) (by first | exact List.Sublist.refl _ | (repeat first | exact List.Sublist.slnil | exact List.nil_sublist _ | apply List.Sublist.cons_cons | apply List.Sublist.cons)) (pv_extract rfl rfl) rfl ?_
          refine dr_one 7 (by kernel_rfl) rfl ?_
          refine at_turns (by exact turns_store sz_54 rfl rfl .agg rfl rfl (.s (.s .z)) (.rep (.rep (.rep (.rep (.rep .done))))) (.s (.s .z))) ?_
          refine at_nil (dr_next (fun _ => (by first | exact List.Sublist.refl _ | (repeat first | exact List.Sublist.slnil | exact List.nil_sublist _ | apply List.Sublist.cons_cons | apply List.Sublist.cons))) ?_)
          refine dr_done (by kernel_rfl) ?_
          refine ex_in_normal (ex_go ?_)
          refine cd_region ?_
          refine at_pure (pv_move rfl) rfl ?_
          refine at_pure (by first | exact pv_sub_n rfl rfl (by unfold In64; omega) | exact pv_sub rfl rfl) rfl ?_
          refine at_pure (pv_assign rfl) rfl ?_
          refine at_nil ?_
          first | exact ex_meet (_, _, _, _, _, p4, i - 1) ⟨by dsimp only; omega, by dsimp only; omega⟩ ⟨rfl, rfl, rfl, rfl, trivial⟩ (List.Sublist.refl _) | exact ex_meet (_, _, _, _, _, p5, i - 1) ⟨by dsimp only; omega, by dsimp only; omega⟩ ⟨rfl, rfl, rfl, rfl, trivial⟩ (List.Sublist.refl _)
        · skip
          refine at_hand (does_hand cal45 rfl rfl rfl (.s .z) (fun w hs => next_any gd a len cap p3 100 w (hs.box (i := 1) rfl) (hI.beside hs (.s .z)) (by omega) hl (by omega)) (fun _ => (.s .z))) rfl (fun x4 p4 hx4 => ?_)
          obtain ⟨h4a, h4b, h4c⟩ := hx4
          have h4d : 0 ≤ p4 ∧ p4 ≤ len := by rw [h4c]; split <;> omega
          clear h4c
          refine at_nil (dr_next (fun _ => (by first | exact List.Sublist.refl _ | (repeat first | exact List.Sublist.slnil | exact List.nil_sublist _ | apply List.Sublist.cons_cons | apply List.Sublist.cons))) ?_)
          refine dr_one 0 (by kernel_rfl) rfl ?_
          refine at_pure (by exact pv_loads_box ag_54 rfl (.s (.s .z)) (.take (.take (.take (.take (.take .done)))))) rfl ?_
          refine at_nil (dr_next (fun _ => (by first | exact List.Sublist.refl _ | (repeat first | exact List.Sublist.slnil | exact List.nil_sublist _ | apply List.Sublist.cons_cons | apply List.Sublist.cons))) ?_)
          refine dr_one 3 (by kernel_rfl) rfl ?_
          refine at_does (does_val cal37 rfl rfl rfl (fun w hs => wrote_ref _ _ _ _ _ _ w)) rfl (fun _ => ?_)
          refine at_nil (dr_next (fun _ => (by first | exact List.Sublist.refl _ | (repeat first | exact List.Sublist.slnil | exact List.nil_sublist _ | apply List.Sublist.cons_cons | apply List.Sublist.cons))) ?_)
          refine dr_take 4 rfl (by kernel_rfl) (by first | exact List.Sublist.refl _ | (repeat first | exact List.Sublist.slnil | exact List.nil_sublist _ | apply List.Sublist.cons_cons | apply List.Sublist.cons)) (pv_move rfl) rfl ?_
          refine dr_take 5 rfl (by kernel_rfl) (by first | exact List.Sublist.refl _ | (repeat first | exact List.Sublist.slnil | exact List.nil_sublist _ | apply List.Sublist.cons_cons | apply List.Sublist.cons)) (pv_extract rfl rfl) rfl ?_
          refine dr_take 6 rfl (by kernel_rfl) (by first | exact List.Sublist.refl _ | (repeat first | exact List.Sublist.slnil | exact List.nil_sublist _ | apply List.Sublist.cons_cons | apply List.Sublist.cons)) (pv_extract rfl rfl) rfl ?_
          refine dr_one 7 (by kernel_rfl) rfl ?_
          refine at_turns (by exact turns_store sz_54 rfl rfl .agg rfl rfl (.s (.s .z)) (.rep (.rep (.rep (.rep (.rep .done))))) (.s (.s .z))) ?_
          refine at_nil (dr_next (fun _ => (by first | exact List.Sublist.refl _ | (repeat first | exact List.Sublist.slnil | exact List.nil_sublist _ | apply List.Sublist.cons_cons | apply List.Sublist.cons))) ?_)
          refine dr_done (by kernel_rfl) ?_
          refine ex_in_normal (ex_go ?_)
          refine cd_region ?_
          refine at_pure (pv_move rfl) rfl ?_
          refine at_pure (by first | exact pv_sub_n rfl rfl (by unfold In64; omega) | exact pv_sub rfl rfl) rfl ?_
          refine at_pure (pv_assign rfl) rfl ?_
          refine at_nil ?_
          first | exact ex_meet (_, _, _, _, _, p4, i - 1) ⟨by dsimp only; omega, by dsimp only; omega⟩ ⟨rfl, rfl, rfl, rfl, trivial⟩ (List.Sublist.refl _) | exact ex_meet (_, _, _, _, _, p5, i - 1) ⟨by dsimp only; omega, by dsimp only; omega⟩ ⟨rfl, rfl, rfl, rfl, trivial⟩ (List.Sublist.refl _)
      · skip
        refine cd_draw 9 [] follows ?_
        refine dr_take 1 rfl (by kernel_rfl) (by first | exact List.Sublist.refl _ | (repeat first | exact List.Sublist.slnil | exact List.nil_sublist _ | apply List.Sublist.cons_cons | apply List.Sublist.cons)) (pv_move rfl) rfl ?_
        refine dr_two 0 2 (by kernel_rfl) rfl rfl ?_ ?_
        · skip
          refine at_pure (by exact pv_loads_box ag_54 rfl (.s (.s .z)) (.take (.take (.take (.take (.take .done)))))) rfl ?_
          refine at_nil (dr_next (fun _ => (by first | exact List.Sublist.refl _ | (repeat first | exact List.Sublist.slnil | exact List.nil_sublist _ | apply List.Sublist.cons_cons | apply List.Sublist.cons))) ?_)
          refine dr_one 2 (by kernel_rfl) rfl ?_
          refine at_hand (does_hand cal45 rfl rfl rfl (.s .z) (fun w hs => next_any gd a len cap p3 80 w (hs.box (i := 1) rfl) (hI.beside hs (.s .z)) (by omega) hl (by omega)) (fun _ => (.s .z))) rfl (fun x5 p5 hx5 => ?_)
          obtain ⟨h5a, h5b, h5c⟩ := hx5
          have h5d : 0 ≤ p5 ∧ p5 ≤ len := by rw [h5c]; split <;> omega
          clear h5c
          refine at_nil (dr_next (fun _ => (by first | exact List.Sublist.refl _ | (repeat first | exact List.Sublist.slnil | exact List.nil_sublist _ | apply List.Sublist.cons_cons | apply List.Sublist.cons))) ?_)
          refine dr_one 3 (by kernel_rfl) rfl ?_
          refine at_does (does_val cal39 rfl rfl rfl (fun w hs => tick_ref _ _ _ _ _ _ w (by omega))) rfl (fun _ => ?_)
          refine at_nil (dr_next (fun _ => (by first | exact List.Sublist.refl _ | (repeat first | exact List.Sublist.slnil | exact List.nil_sublist _ | apply List.Sublist.cons_cons | apply List.Sublist.cons))) ?_)
          refine dr_take 4 rfl (by kernel_rfl) (by first | exact List.Sublist.refl _ | (repeat first | exact List.Sublist.slnil | exact List.nil_sublist _ | apply List.Sublist.cons_cons | apply List.Sublist.cons)) (pv_move rfl) rfl ?_
          refine dr_take 5 rfl (by kernel_rfl) (by first | exact List.Sublist.refl _ | (repeat first | exact List.Sublist.slnil | exact List.nil_sublist _ | apply List.Sublist.cons_cons | apply List.Sublist.cons)) (pv_extract rfl rfl) rfl ?_
          refine dr_take 6 rfl (by kernel_rfl) (by first | exact List.Sublist.refl _ | (repeat first | exact List.Sublist.slnil | exact List.nil_sublist _ | apply List.Sublist.cons_cons | apply List.Sublist.cons)) (pv_extract rfl rfl) rfl ?_
          refine dr_take 7 rfl (by kernel_rfl) (by first | exact List.Sublist.refl _ | (repeat first | exact List.Sublist.slnil | exact List.nil_sublist _ | apply List.Sublist.cons_cons | apply List.Sublist.cons)) (pv_extract rfl rfl) rfl ?_
          refine dr_one 8 (by kernel_rfl) rfl ?_
          refine at_turns (by exact turns_store sz_54 rfl rfl .agg rfl rfl (.s (.s .z)) (.rep (.rep (.rep (.rep (.rep .done))))) (.s (.s .z))) ?_
          refine at_nil (dr_next (fun _ => (by first | exact List.Sublist.refl _ | (repeat first | exact List.Sublist.slnil | exact List.nil_sublist _ | apply List.Sublist.cons_cons | apply List.Sublist.cons))) ?_)
          refine dr_done (by kernel_rfl) ?_
          refine ex_in_normal (ex_go ?_)
          refine cd_region ?_
          refine at_pure (pv_move rfl) rfl ?_
          refine at_pure (by first | exact pv_sub_n rfl rfl (by unfold In64; omega) | exact pv_sub rfl rfl) rfl ?_
          refine at_pure (pv_assign rfl) rfl ?_
          refine at_nil ?_
          first | exact ex_meet (_, _, _, _, _, p4, i - 1) ⟨by dsimp only; omega, by dsimp only; omega⟩ ⟨rfl, rfl, rfl, rfl, trivial⟩ (List.Sublist.refl _) | exact ex_meet (_, _, _, _, _, p5, i - 1) ⟨by dsimp only; omega, by dsimp only; omega⟩ ⟨rfl, rfl, rfl, rfl, trivial⟩ (List.Sublist.refl _)
        · skip
          refine at_hand (does_hand cal45 rfl rfl rfl (.s .z) (fun w hs => next_any gd a len cap p3 80 w (hs.box (i := 1) rfl) (hI.beside hs (.s .z)) (by omega) hl (by omega)) (fun _ => (.s .z))) rfl (fun x5 p5 hx5 => ?_)
          obtain ⟨h5a, h5b, h5c⟩ := hx5
          have h5d : 0 ≤ p5 ∧ p5 ≤ len := by rw [h5c]; split <;> omega
          clear h5c
          refine at_nil (dr_next (fun _ => (by first | exact List.Sublist.refl _ | (repeat first | exact List.Sublist.slnil | exact List.nil_sublist _ | apply List.Sublist.cons_cons | apply List.Sublist.cons))) ?_)
          refine dr_one 0 (by kernel_rfl) rfl ?_
          refine at_pure (by exact pv_loads_box ag_54 rfl (.s (.s .z)) (.take (.take (.take (.take (.take .done)))))) rfl ?_
          refine at_nil (dr_next (fun _ => (by first | exact List.Sublist.refl _ | (repeat first | exact List.Sublist.slnil | exact List.nil_sublist _ | apply List.Sublist.cons_cons | apply List.Sublist.cons))) ?_)
          refine dr_one 3 (by kernel_rfl) rfl ?_
          refine at_does (does_val cal39 rfl rfl rfl (fun w hs => tick_ref _ _ _ _ _ _ w (by omega))) rfl (fun _ => ?_)
          refine at_nil (dr_next (fun _ => (by first | exact List.Sublist.refl _ | (repeat first | exact List.Sublist.slnil | exact List.nil_sublist _ | apply List.Sublist.cons_cons | apply List.Sublist.cons))) ?_)
          refine dr_take 4 rfl (by kernel_rfl) (by first | exact List.Sublist.refl _ | (repeat first | exact List.Sublist.slnil | exact List.nil_sublist _ | apply List.Sublist.cons_cons | apply List.Sublist.cons)) (pv_move rfl) rfl ?_
          refine dr_take 5 rfl (by kernel_rfl) (by first | exact List.Sublist.refl _ | (repeat first | exact List.Sublist.slnil | exact List.nil_sublist _ | apply List.Sublist.cons_cons | apply List.Sublist.cons)) (pv_extract rfl rfl) rfl ?_
          refine dr_take 6 rfl (by kernel_rfl) (by first | exact List.Sublist.refl _ | (repeat first | exact List.Sublist.slnil | exact List.nil_sublist _ | apply List.Sublist.cons_cons | apply List.Sublist.cons)) (pv_extract rfl rfl) rfl ?_
          refine dr_take 7 rfl (by kernel_rfl) (by first | exact List.Sublist.refl _ | (repeat first | exact List.Sublist.slnil | exact List.nil_sublist _ | apply List.Sublist.cons_cons | apply List.Sublist.cons)) (pv_extract rfl rfl) rfl ?_
          refine dr_one 8 (by kernel_rfl) rfl ?_
          refine at_turns (by exact turns_store sz_54 rfl rfl .agg rfl rfl (.s (.s .z)) (.rep (.rep (.rep (.rep (.rep .done))))) (.s (.s .z))) ?_
          refine at_nil (dr_next (fun _ => (by first | exact List.Sublist.refl _ | (repeat first | exact List.Sublist.slnil | exact List.nil_sublist _ | apply List.Sublist.cons_cons | apply List.Sublist.cons))) ?_)
          refine dr_done (by kernel_rfl) ?_
          refine ex_in_normal (ex_go ?_)
          refine cd_region ?_
          refine at_pure (pv_move rfl) rfl ?_
          refine at_pure (by first | exact pv_sub_n rfl rfl (by unfold In64; omega) | exact pv_sub rfl rfl) rfl ?_
          refine at_pure (pv_assign rfl) rfl ?_
          refine at_nil ?_
          first | exact ex_meet (_, _, _, _, _, p4, i - 1) ⟨by dsimp only; omega, by dsimp only; omega⟩ ⟨rfl, rfl, rfl, rfl, trivial⟩ (List.Sublist.refl _) | exact ex_meet (_, _, _, _, _, p5, i - 1) ⟨by dsimp only; omega, by dsimp only; omega⟩ ⟨rfl, rfl, rfl, rfl, trivial⟩ (List.Sublist.refl _)
    · skip
      refine cd_exit ?_
      refine ex_then_exit (ex_then_exit (ex_in ?_))
      exact ex_meet (_, _, _, _, _, p) ⟨hp1, hp2⟩ ⟨rfl, rfl, rfl, trivial⟩ (List.Sublist.refl _)
  · rintro ⟨x, y, z, u, e, p6⟩ ⟨hp3, hp4⟩; dsimp only at hp3 hp4
    refine cd_seq ?_
    refine cd_seq ?_
    refine cd_region ?_
    refine at_pure (pv_move rfl) rfl ?_
    refine at_hand (does_hand cal45 rfl rfl rfl (.s .z) (fun w hs => next_any gd a len cap p6 6 w (hs.box (i := 1) rfl) (hI.beside hs (.s .z)) (by omega) hl (by omega)) (fun _ => (.s .z))) rfl (fun x6 p7 hx6 => ?_)
    obtain ⟨h6a, h6b, h6c⟩ := hx6
    refine at_pure (pv_eql rfl rfl) rfl ?_
    refine at_nil ?_
    refine ex_go ?_
    refine cd_if rfl (fun hb3 => ?_) (fun hb3 => ?_)
    · skip
      refine cd_region ?_
      refine at_pure (by exact pv_loads_box ag_54 rfl (.s (.s .z)) (.take (.take (.take (.take (.take .done)))))) rfl ?_
      refine at_does (does_val cal35 rfl rfl rfl (fun w hs => die_ref _ _ _ _ _ w)) rfl (fun _ => ?_)
      refine at_turns (by exact turns_store sz_54 rfl rfl .agg rfl rfl (.s (.s .z)) (.rep (.rep (.rep (.rep (.rep .done))))) (.s (.s .z))) ?_
      refine at_nil ?_
      refine ex_go ?_
      refine cd_seq ?_
      refine cd_region ?_
      refine at_pure (by exact pv_loads_box ag_54 rfl (.s (.s .z)) (.take (.take (.take (.take (.take .done)))))) rfl ?_
      refine at_turns (by exact turns_store sz_54 rfl rfl .agg rfl rfl .z (.rep (.rep (.rep (.rep (.rep .done))))) .z) ?_
      refine at_nil ?_
      refine ex_go ?_
      refine cd_ret ?_
      exact end_c rfl (by exact Lies.box ag_54 rfl .z rfl) (fun w hs => Some'.mk (_, _, _, _, _) trivial rfl hs)
    · skip
      refine cd_skip ?_
      refine ex_go ?_
      refine cd_seq ?_
      refine cd_region ?_
      refine at_pure (by exact pv_loads_box ag_54 rfl (.s (.s .z)) (.take (.take (.take (.take (.take .done)))))) rfl ?_
      refine at_turns (by exact turns_store sz_54 rfl rfl .agg rfl rfl .z (.rep (.rep (.rep (.rep (.rep .done))))) .z) ?_
      refine at_nil ?_
      refine ex_go ?_
      refine cd_ret ?_
      exact end_c rfl (by exact Lies.box ag_54 rfl .z rfl) (fun w hs => Some'.mk (_, _, _, _, _) trivial rfl hs)

set_option maxRecDepth 10000 in
set_option maxHeartbeats 2000000 in
theorem clientSteps_any (a : Option Addr) (len cap : Nat) (x y z u : Int) (e : Bool) (n g : Int) (w : World) (hI : Ints [] w a len) (hl : len ≤ 17592186044416) (hn : n ≤ 9223372036854775807) : Calls Try.prog 8 [.slice a len cap, .agg #[.int .i64 x, .int .i64 y, .int .i64 z, .int .i64 u, .bool e], .int .i64 n, .int .i64 g].toArray w (Val (.bool true) w) := by
  refine calls_body (n := 137) Try.func8 rfl rfl rfl (St.init _ []) ?_
  refine cd_seq ?_
  refine cd_region ?_
  refine at_does (does_box rfl .agg (fun _ => .nil)) rfl (fun g1 => ?_)
  refine at_pure (pv_assign rfl) rfl ?_
  refine at_nil ?_
  refine ex_go ?_
  refine cd_seq ?_
  refine cd_seq ?_
  refine cd_region ?_
  refine at_does (does_val cal28 rfl rfl rfl (fun w hs => sane_client w)) rfl (fun _ => ?_)
  refine at_pure (pv_not rfl) rfl ?_
  refine at_nil ?_
  refine ex_go ?_
  refine cd_else rfl rfl ?_
  refine cd_skip ?_
  refine ex_go ?_
  refine cd_seq ?_
  refine cd_region ?_
  refine at_pure (pv_move rfl) rfl ?_
  refine at_does (does_some cal29 rfl rfl rfl (fun w hs => made_any a len cap w (hI.keep hs.keep) hl)) rfl (fun zz => ?_)
  obtain ⟨⟨m1, m2, m3, m4, m5⟩, hz⟩ := zz
  dsimp only
  refine at_does (does_alloc ze_54 .agg (fun _ => (.cons .nil))) rfl (fun g2 => ?_)
  refine at_turns (by exact turns_store sz_54 rfl rfl .agg rfl rfl (.s .z) (.rep (.rep (.rep (.rep (.rep .done))))) (.s .z)) ?_
  refine at_nil ?_
  refine ex_go ?_
  refine cd_seq ?_
  refine cd_seq ?_
  refine cd_region ?_
  refine at_pure (by exact pv_loads_box ag_54 rfl (.s .z) (.take (.take (.take (.take (.take .done)))))) rfl ?_
  refine at_pure (by exact pv_loads_box ag_54 rfl .z (.take (.take (.take (.take (.take .done)))))) rfl ?_
  refine at_does (does_list (by rfl) (by exact (bs_56_2_0_1 _ _ _ _ _ _ _ _ _ _)) (by exact (fun _ => (.cons (.cons .nil))))) rfl (fun g3 => ?_)
  refine at_pure (pv_len Try.underlying56 rfl) rfl ?_
  refine at_pure (pv_move rfl) rfl ?_
  refine at_nil ?_
  refine ex_go ?_
  refine cd_block ?_
  refine cd_rounds 2 ?_
  refine cd_seq ?_
  refine cd_region ?_
  refine at_pure (pv_lss rfl rfl) rfl ?_
  refine at_nil ?_
  refine ex_go ?_
  refine cd_seq ?_
  refine cd_then rfl (by decide) ?_
  refine cd_skip ?_
  refine ex_go ?_
  refine cd_seq ?_
  refine cd_block ?_
  refine cd_seq ?_
  refine cd_region ?_
  refine at_pure (pv_indexLit Try.underlying56 cz_54 rfl rfl (by decide) rfl) rfl ?_
  refine at_pure (by exact pv_loads_box ag_54 rfl (.s (.s .z)) (.take (.take (.take (.take (.take .done)))))) rfl ?_
  refine at_does (does_alloc ze_54 .agg (fun _ => (.cons (.cons (.cons .nil))))) rfl (fun g4 => ?_)
  refine at_turns (by exact turns_store sz_54 rfl rfl .agg rfl rfl (.s (.s (.s .z))) (.rep (.rep (.rep (.rep (.rep .done))))) (.s (.s (.s .z)))) ?_
  refine at_nil ?_
  refine ex_go ?_
  refine cd_seq ?_
  refine cd_seq ?_
  refine cd_draw' 19 follows ?_
  refine dr_take 0 rfl (by kernel_rfl) (by first | exact List.Sublist.refl _ | (repeat first | exact List.Sublist.slnil | exact List.nil_sublist _ | apply List.Sublist.cons_cons | apply List.Sublist.cons)) (by exact pv_loads_box ag_54 rfl (.s (.s (.s .z))) (.take (.take (.take (.take (.take .done)))))) rfl ?_
  refine dr_take 2 rfl (by kernel_rfl) (by first | exact List.Sublist.refl _ | (repeat first | exact List.Sublist.slnil | exact List.nil_sublist _ | apply List.Sublist.cons_cons | apply List.Sublist.cons)) (by exact pv_loads_box ag_54 rfl (.s (.s (.s .z))) (.take (.take (.take (.take (.take .done)))))) rfl ?_
  refine dr_one 1 (by kernel_rfl) rfl ?_
  refine at_does (does_val cal30 rfl rfl rfl (fun w hs => valid_any _ _ _ _ _ w)) rfl (fun _ => ?_)
  refine at_nil (dr_next (fun _ => (by first | exact List.Sublist.refl _ | (repeat first | exact List.Sublist.slnil | exact List.nil_sublist _ | apply List.Sublist.cons_cons | apply List.Sublist.cons))) ?_)
  refine dr_one 3 (by kernel_rfl) rfl ?_
  refine at_does (does_val cal31 rfl rfl rfl (fun w hs => valid_ref _ _ _ _ _ w)) rfl (fun _ => ?_)
  refine at_nil (dr_next (fun _ => (by first | exact List.Sublist.refl _ | (repeat first | exact List.Sublist.slnil | exact List.nil_sublist _ | apply List.Sublist.cons_cons | apply List.Sublist.cons))) ?_)
  refine dr_take 4 rfl (by kernel_rfl) (by first | exact List.Sublist.refl _ | (repeat first | exact List.Sublist.slnil | exact List.nil_sublist _ | apply List.Sublist.cons_cons | apply List.Sublist.cons)) (pv_neq_b_same Try.underlying4 rfl rfl) rfl ?_
  refine dr_take 5 rfl (by kernel_rfl) (by first | exact List.Sublist.refl _ | (repeat first | exact List.Sublist.slnil | exact List.nil_sublist _ | apply List.Sublist.cons_cons | apply List.Sublist.cons)) (pv_move rfl) rfl ?_
  refine dr_take_g 6 rfl rfl rfl rfl (by kernel_rfl) (by first | exact List.Sublist.refl _ | (repeat first | exact List.Sublist.slnil | exact List.nil_sublist _ | apply List.Sublist.cons_cons | apply List.Sublist.cons)) (by exact pv_loads_box ag_54 rfl (.s (.s (.s .z))) (.take (.take (.take (.take (.take .done)))))) rfl ?_
  refine dr_take_g 8 rfl rfl rfl rfl (by kernel_rfl) (by first | exact List.Sublist.refl _ | (repeat first | exact List.Sublist.slnil | exact List.nil_sublist _ | apply List.Sublist.cons_cons | apply List.Sublist.cons)) (by exact pv_loads_box ag_54 rfl (.s (.s (.s .z))) (.take (.take (.take (.take (.take .done)))))) rfl ?_
  refine dr_one 7 (by kernel_rfl) rfl ?_
  refine at_does_g rfl rfl rfl (does_val cal32 rfl rfl rfl (fun w hs => state_any _ _ _ _ _ w)) rfl (fun _ => ?_)
  refine at_nil (dr_next (fun _ => (by first | exact List.Sublist.refl _ | (repeat first | exact List.Sublist.slnil | exact List.nil_sublist _ | apply List.Sublist.cons_cons | apply List.Sublist.cons))) ?_)
  refine dr_one 9 (by kernel_rfl) rfl ?_
  refine at_does_g rfl rfl rfl (does_val cal33 rfl rfl rfl (fun w hs => state_ref _ _ _ _ _ w)) rfl (fun _ => ?_)
  refine at_nil (dr_next (fun _ => (by first | exact List.Sublist.refl _ | (repeat first | exact List.Sublist.slnil | exact List.nil_sublist _ | apply List.Sublist.cons_cons | apply List.Sublist.cons))) ?_)
  refine dr_take_g 10 rfl rfl rfl rfl (by kernel_rfl) (by first | exact List.Sublist.refl _ | (repeat first | exact List.Sublist.slnil | exact List.nil_sublist _ | apply List.Sublist.cons_cons | apply List.Sublist.cons)) (pv_neq_same rfl rfl) rfl ?_
  refine dr_take 11 rfl (by kernel_rfl) (by first | exact List.Sublist.refl _ | (repeat first | exact List.Sublist.slnil | exact List.nil_sublist _ | apply List.Sublist.cons_cons | apply List.Sublist.cons)) (pv_pick_f rfl rfl rfl) rfl ?_
  refine dr_take 12 rfl (by kernel_rfl) (by first | exact List.Sublist.refl _ | (repeat first | exact List.Sublist.slnil | exact List.nil_sublist _ | apply List.Sublist.cons_cons | apply List.Sublist.cons)) (pv_move rfl) rfl ?_
  refine dr_take_g 13 rfl rfl rfl rfl (by kernel_rfl) (by first | exact List.Sublist.refl _ | (repeat first | exact List.Sublist.slnil | exact List.nil_sublist _ | apply List.Sublist.cons_cons | apply List.Sublist.cons)) (by exact pv_loads_box ag_54 rfl (.s (.s (.s .z))) (.take (.take (.take (.take (.take .done)))))) rfl ?_
  refine dr_take_g 15 rfl rfl rfl rfl (by kernel_rfl) (by first | exact List.Sublist.refl _ | (repeat first | exact List.Sublist.slnil | exact List.nil_sublist _ | apply List.Sublist.cons_cons | apply List.Sublist.cons)) (by exact pv_loads_box ag_54 rfl (.s (.s (.s .z))) (.take (.take (.take (.take (.take .done)))))) rfl ?_
  refine dr_one 14 (by kernel_rfl) rfl ?_
  refine at_does_g rfl rfl rfl (does_val cal34 rfl rfl rfl (fun w hs => die_any _ _ _ _ _ w)) rfl (fun _ => ?_)
  refine at_nil (dr_next (fun _ => (by first | exact List.Sublist.refl _ | (repeat first | exact List.Sublist.slnil | exact List.nil_sublist _ | apply List.Sublist.cons_cons | apply List.Sublist.cons))) ?_)
  refine dr_one 16 (by kernel_rfl) rfl ?_
  refine at_does_g rfl rfl rfl (does_val cal35 rfl rfl rfl (fun w hs => die_ref _ _ _ _ _ w)) rfl (fun _ => ?_)
  refine at_nil (dr_next (fun _ => (by first | exact List.Sublist.refl _ | (repeat first | exact List.Sublist.slnil | exact List.nil_sublist _ | apply List.Sublist.cons_cons | apply List.Sublist.cons))) ?_)
  refine dr_take_g 17 rfl rfl rfl rfl (by kernel_rfl) (by first | exact List.Sublist.refl _ | (repeat first | exact List.Sublist.slnil | exact List.nil_sublist _ | apply List.Sublist.cons_cons | apply List.Sublist.cons)) (pv_neqls_same sb_54 rfl rfl rfl) rfl ?_
  refine dr_take 18 rfl (by kernel_rfl) (by first | exact List.Sublist.refl _ | (repeat first | exact List.Sublist.slnil | exact List.nil_sublist _ | apply List.Sublist.cons_cons | apply List.Sublist.cons)) (pv_pick_f rfl rfl rfl) rfl ?_
  refine dr_done (by kernel_rfl) ?_
  refine ex_go ?_
  refine cd_else rfl rfl ?_
  refine cd_skip ?_
  refine ex_go ?_
  refine cd_seq ?_
  refine cd_region ?_
  refine at_pure (pv_move rfl) rfl ?_
  refine at_pure (pv_move rfl) rfl ?_
  refine at_does (does_val cal12 rfl rfl rfl (fun w hs => mod_any _ _ w (by decide))) rfl (fun _ => ?_)
  refine at_does (does_list (by rfl) (by exact (bs_36_2_0_1 _ _)) (by exact (fun _ => (.cons (.cons (.cons (.cons .nil))))))) rfl (fun g5 => ?_)
  refine at_pure (pv_len Try.underlying36 rfl) rfl ?_
  refine at_pure (pv_move rfl) rfl ?_
  refine at_nil ?_
  refine ex_go ?_
  refine cd_block ?_
  refine cd_rounds 2 ?_
  refine cd_seq ?_
  refine cd_region ?_
  refine at_pure (pv_lss rfl rfl) rfl ?_
  refine at_nil ?_
  refine ex_go ?_
  refine cd_seq ?_
  refine cd_then rfl (by decide) ?_
  refine cd_skip ?_
  refine ex_go ?_
  refine cd_seq ?_
  refine cd_block ?_
  refine cd_seq ?_
  refine cd_region ?_
  refine at_pure (pv_indexLit Try.underlying36 cz_3 rfl rfl (by decide) rfl) rfl ?_
  refine at_pure (by exact pv_load ld_3 rfl (box_cell (.s (.s (.s (.s .z)))) .z)) rfl ?_
  refine at_pure (pv_assign rfl) rfl ?_
  refine at_nil ?_
  refine ex_go ?_
  refine cd_seq ?_
  refine cd_region ?_
  refine at_pure (by exact pv_loads_box ag_54 rfl (.s (.s (.s .z))) (.take (.take (.take (.take (.take .done)))))) rfl ?_
  refine at_pure (pv_move rfl) rfl ?_
  refine at_does (does_val cal36 rfl rfl rfl (fun w hs => wrote_any _ _ _ _ _ _ w)) rfl (fun _ => ?_)
  refine at_pure (pv_move rfl) rfl ?_
  refine at_pure (pv_extract rfl rfl) rfl ?_
  refine at_pure (pv_extract rfl rfl) rfl ?_
  refine at_does (does_alloc ze_54 .agg (fun _ => (.cons (.cons (.cons (.cons (.cons .nil))))))) rfl (fun g6 => ?_)
  refine at_turns (by exact turns_store sz_54 rfl rfl .agg rfl rfl (.s (.s (.s (.s (.s .z))))) (.rep (.rep (.rep (.rep (.rep .done))))) (.s (.s (.s (.s (.s .z)))))) ?_
  refine at_pure (pv_assign rfl) rfl ?_
  refine at_nil ?_
  refine ex_go ?_
  refine cd_seq ?_
  refine cd_region ?_
  refine at_pure (by exact pv_loads_box ag_54 rfl (.s (.s (.s .z))) (.take (.take (.take (.take (.take .done)))))) rfl ?_
  refine at_pure (pv_move rfl) rfl ?_
  refine at_does (does_val cal37 rfl rfl rfl (fun w hs => wrote_ref _ _ _ _ _ _ w)) rfl (fun _ => ?_)
  refine at_pure (pv_move rfl) rfl ?_
  refine at_pure (pv_extract rfl rfl) rfl ?_
  refine at_pure (pv_extract rfl rfl) rfl ?_
  refine at_does (does_alloc ze_54 .agg (fun _ => (.cons (.cons (.cons (.cons (.cons (.cons .nil)))))))) rfl (fun g7 => ?_)
  refine at_turns (by exact turns_store sz_54 rfl rfl .agg rfl rfl (.s (.s (.s (.s (.s (.s .z)))))) (.rep (.rep (.rep (.rep (.rep .done))))) (.s (.s (.s (.s (.s (.s .z))))))) ?_
  refine at_pure (pv_assign rfl) rfl ?_
  refine at_nil ?_
  refine ex_go ?_
  refine cd_seq ?_
  refine cd_region ?_
  refine at_pure (by exact pv_loads_box ag_54 rfl (.s (.s (.s .z))) (.take (.take (.take (.take (.take .done)))))) rfl ?_
  refine at_pure (pv_move rfl) rfl ?_
  refine at_does (does_val cal38 rfl rfl rfl (fun w hs => tick_any _ _ _ _ _ _ w (by omega))) rfl (fun _ => ?_)
  refine at_pure (pv_move rfl) rfl ?_
  refine at_pure (pv_extract rfl rfl) rfl ?_
  refine at_pure (pv_extract rfl rfl) rfl ?_
  refine at_pure (pv_extract rfl rfl) rfl ?_
  refine at_does (does_alloc ze_54 .agg (fun _ => (.cons (.cons (.cons (.cons (.cons (.cons (.cons .nil))))))))) rfl (fun g8 => ?_)
  refine at_turns (by exact turns_store sz_54 rfl rfl .agg rfl rfl (.s (.s (.s (.s (.s (.s (.s .z))))))) (.rep (.rep (.rep (.rep (.rep .done))))) (.s (.s (.s (.s (.s (.s (.s .z)))))))) ?_
  refine at_pure (pv_assign rfl) rfl ?_
  refine at_pure (pv_assign rfl) rfl ?_
  refine at_nil ?_
  refine ex_go ?_
  refine cd_seq ?_
  refine cd_region ?_
  refine at_pure (by exact pv_loads_box ag_54 rfl (.s (.s (.s .z))) (.take (.take (.take (.take (.take .done)))))) rfl ?_
  refine at_pure (pv_move rfl) rfl ?_
  refine at_does (does_val cal39 rfl rfl rfl (fun w hs => tick_ref _ _ _ _ _ _ w (by omega))) rfl (fun _ => ?_)
  refine at_pure (pv_move rfl) rfl ?_
  refine at_pure (pv_extract rfl rfl) rfl ?_
  refine at_pure (pv_extract rfl rfl) rfl ?_
  refine at_pure (pv_extract rfl rfl) rfl ?_
  refine at_does (does_alloc ze_54 .agg (fun _ => (.cons (.cons (.cons (.cons (.cons (.cons (.cons (.cons .nil)))))))))) rfl (fun g9 => ?_)
  refine at_turns (by exact turns_store sz_54 rfl rfl .agg rfl rfl (.s (.s (.s (.s (.s (.s (.s (.s .z)))))))) (.rep (.rep (.rep (.rep (.rep .done))))) (.s (.s (.s (.s (.s (.s (.s (.s .z))))))))) ?_
  refine at_pure (pv_assign rfl) rfl ?_
  refine at_pure (pv_assign rfl) rfl ?_
  refine at_nil ?_
  refine ex_go ?_
  refine cd_seq ?_
  refine cd_region ?_
  refine at_pure (by exact pv_loads_box ag_54 rfl (.s (.s (.s (.s (.s .z))))) (.take (.take (.take (.take (.take .done)))))) rfl ?_
  refine at_pure (by exact pv_loads_box ag_54 rfl (.s (.s (.s (.s (.s (.s .z)))))) (.take (.take (.take (.take (.take .done)))))) rfl ?_
  refine at_pure (pv_neqls_same sb_54 rfl rfl rfl) rfl ?_
  refine at_pure (pv_move rfl) rfl ?_
  refine at_pure_g rfl rfl rfl (pv_move rfl) rfl ?_
  refine at_pure_g rfl rfl rfl (pv_move rfl) rfl ?_
  refine at_pure_g rfl rfl rfl (pv_neq_same rfl rfl) rfl ?_
  refine at_pure (pv_pick_f rfl rfl rfl) rfl ?_
  refine at_pure (pv_move rfl) rfl ?_
  refine at_pure_g rfl rfl rfl (by exact pv_loads_box ag_54 rfl (.s (.s (.s (.s (.s (.s (.s .z))))))) (.take (.take (.take (.take (.take .done)))))) rfl ?_
  refine at_pure_g rfl rfl rfl (by exact pv_loads_box ag_54 rfl (.s (.s (.s (.s (.s (.s (.s (.s .z)))))))) (.take (.take (.take (.take (.take .done)))))) rfl ?_
  refine at_pure_g rfl rfl rfl (pv_neqls_same sb_54 rfl rfl rfl) rfl ?_
  refine at_pure (pv_pick_f rfl rfl rfl) rfl ?_
  refine at_pure (pv_move rfl) rfl ?_
  refine at_pure_g rfl rfl rfl (pv_move rfl) rfl ?_
  refine at_pure_g rfl rfl rfl (pv_move rfl) rfl ?_
  refine at_pure_g rfl rfl rfl (pv_neq_same rfl rfl) rfl ?_
  refine at_pure (pv_pick_f rfl rfl rfl) rfl ?_
  refine at_pure (pv_move rfl) rfl ?_
  refine at_pure_g rfl rfl rfl (pv_move rfl) rfl ?_
  refine at_pure_g rfl rfl rfl (pv_move rfl) rfl ?_
  refine at_pure_g rfl rfl rfl (pv_neq_same rfl rfl) rfl ?_
  refine at_pure (pv_pick_f rfl rfl rfl) rfl ?_
  refine at_nil ?_
  refine ex_go ?_
  refine cd_else rfl rfl ?_
  refine cd_skip ?_
  refine ex_in_normal (ex_go ?_)
  refine cd_region ?_
  refine at_pure (by first | exact pv_add_n rfl rfl (by unfold In64; omega) | exact pv_add rfl rfl) rfl ?_
  refine at_pure (pv_move rfl) rfl ?_
  refine at_nil ?_
  refine ex_round ?_
  refine cd_seq ?_
  refine cd_region ?_
  refine at_pure (pv_lss rfl rfl) rfl ?_
  refine at_nil ?_
  refine ex_go ?_
  refine cd_seq ?_
  refine cd_then rfl (by decide) ?_
  refine cd_skip ?_
  refine ex_go ?_
  refine cd_seq ?_
  refine cd_block ?_
  refine cd_seq ?_
  refine cd_region ?_
  refine at_pure (pv_indexLit Try.underlying36 cz_3 rfl rfl (by decide) rfl) rfl ?_
  refine at_pure (by exact pv_load ld_3 rfl (box_cell (.s (.s (.s (.s .z)))) (.s .z))) rfl ?_
  refine at_pure (pv_assign rfl) rfl ?_
  refine at_nil ?_
  refine ex_go ?_
  refine cd_seq ?_
  refine cd_region ?_
  refine at_pure (by exact pv_loads_box ag_54 rfl (.s (.s (.s .z))) (.take (.take (.take (.take (.take .done)))))) rfl ?_
  refine at_pure (pv_move rfl) rfl ?_
  refine at_does (does_val cal36 rfl rfl rfl (fun w hs => wrote_any _ _ _ _ _ _ w)) rfl (fun _ => ?_)
  refine at_pure (pv_move rfl) rfl ?_
  refine at_pure (pv_extract rfl rfl) rfl ?_
  refine at_pure (pv_extract rfl rfl) rfl ?_
  refine at_does (does_alloc ze_54 .agg (fun _ => (.cons (.cons (.cons (.cons (.cons (.cons (.cons (.cons (.cons .nil))))))))))) rfl (fun g10 => ?_)
  refine at_turns (by exact turns_store sz_54 rfl rfl .agg rfl rfl (.s (.s (.s (.s (.s (.s (.s (.s (.s .z))))))))) (.rep (.rep (.rep (.rep (.rep .done))))) (.s (.s (.s (.s (.s (.s (.s (.s (.s .z)))))))))) ?_
  refine at_pure (pv_assign rfl) rfl ?_
  refine at_nil ?_
  refine ex_go ?_
  refine cd_seq ?_
  refine cd_region ?_
  refine at_pure (by exact pv_loads_box ag_54 rfl (.s (.s (.s .z))) (.take (.take (.take (.take (.take .done)))))) rfl ?_
  refine at_pure (pv_move rfl) rfl ?_
  refine at_does (does_val cal37 rfl rfl rfl (fun w hs => wrote_ref _ _ _ _ _ _ w)) rfl (fun _ => ?_)
  refine at_pure (pv_move rfl) rfl ?_
  refine at_pure (pv_extract rfl rfl) rfl ?_
  refine at_pure (pv_extract rfl rfl) rfl ?_
  refine at_does (does_alloc ze_54 .agg (fun _ => (.cons (.cons (.cons (.cons (.cons (.cons (.cons (.cons (.cons (.cons .nil)))))))))))) rfl (fun g11 => ?_)
  refine at_turns (by exact turns_store sz_54 rfl rfl .agg rfl rfl (.s (.s (.s (.s (.s (.s (.s (.s (.s (.s .z)))))))))) (.rep (.rep (.rep (.rep (.rep .done))))) (.s (.s (.s (.s (.s (.s (.s (.s (.s (.s .z))))))))))) ?_
  refine at_pure (pv_assign rfl) rfl ?_
  refine at_nil ?_
  refine ex_go ?_
  refine cd_seq ?_
  refine cd_region ?_
  refine at_pure (by exact pv_loads_box ag_54 rfl (.s (.s (.s .z))) (.take (.take (.take (.take (.take .done)))))) rfl ?_
  refine at_pure (pv_move rfl) rfl ?_
  refine at_does (does_val cal38 rfl rfl rfl (fun w hs => tick_any _ _ _ _ _ _ w (by omega))) rfl (fun _ => ?_)
  refine at_pure (pv_move rfl) rfl ?_
  refine at_pure (pv_extract rfl rfl) rfl ?_
  refine at_pure (pv_extract rfl rfl) rfl ?_
  refine at_pure (pv_extract rfl rfl) rfl ?_
  refine at_does (does_alloc ze_54 .agg (fun _ => (.cons (.cons (.cons (.cons (.cons (.cons (.cons (.cons (.cons (.cons (.cons .nil))))))))))))) rfl (fun g12 => ?_)
  refine at_turns (by exact turns_store sz_54 rfl rfl .agg rfl rfl (.s (.s (.s (.s (.s (.s (.s (.s (.s (.s (.s .z))))))))))) (.rep (.rep (.rep (.rep (.rep .done))))) (.s (.s (.s (.s (.s (.s (.s (.s (.s (.s (.s .z)))))))))))) ?_
  refine at_pure (pv_assign rfl) rfl ?_
  refine at_pure (pv_assign rfl) rfl ?_
  refine at_nil ?_
  refine ex_go ?_
  refine cd_seq ?_
  refine cd_region ?_
  refine at_pure (by exact pv_loads_box ag_54 rfl (.s (.s (.s .z))) (.take (.take (.take (.take (.take .done)))))) rfl ?_
  refine at_pure (pv_move rfl) rfl ?_
  refine at_does (does_val cal39 rfl rfl rfl (fun w hs => tick_ref _ _ _ _ _ _ w (by omega))) rfl (fun _ => ?_)
  refine at_pure (pv_move rfl) rfl ?_
  refine at_pure (pv_extract rfl rfl) rfl ?_
  refine at_pure (pv_extract rfl rfl) rfl ?_
  refine at_pure (pv_extract rfl rfl) rfl ?_
  refine at_does (does_alloc ze_54 .agg (fun _ => (.cons (.cons (.cons (.cons (.cons (.cons (.cons (.cons (.cons (.cons (.cons (.cons .nil)))))))))))))) rfl (fun g13 => ?_)
  refine at_turns (by exact turns_store sz_54 rfl rfl .agg rfl rfl (.s (.s (.s (.s (.s (.s (.s (.s (.s (.s (.s (.s .z)))))))))))) (.rep (.rep (.rep (.rep (.rep .done))))) (.s (.s (.s (.s (.s (.s (.s (.s (.s (.s (.s (.s .z))))))))))))) ?_
  refine at_pure (pv_assign rfl) rfl ?_
  refine at_pure (pv_assign rfl) rfl ?_
  refine at_nil ?_
  refine ex_go ?_
  refine cd_seq ?_
  refine cd_region ?_
  refine at_pure (by exact pv_loads_box ag_54 rfl (.s (.s (.s (.s (.s (.s (.s (.s (.s .z))))))))) (.take (.take (.take (.take (.take .done)))))) rfl ?_
  refine at_pure (by exact pv_loads_box ag_54 rfl (.s (.s (.s (.s (.s (.s (.s (.s (.s (.s .z)))))))))) (.take (.take (.take (.take (.take .done)))))) rfl ?_
  refine at_pure (pv_neqls_same sb_54 rfl rfl rfl) rfl ?_
  refine at_pure (pv_move rfl) rfl ?_
  refine at_pure_g rfl rfl rfl (pv_move rfl) rfl ?_
  refine at_pure_g rfl rfl rfl (pv_move rfl) rfl ?_
  refine at_pure_g rfl rfl rfl (pv_neq_same rfl rfl) rfl ?_
  refine at_pure (pv_pick_f rfl rfl rfl) rfl ?_
  refine at_pure (pv_move rfl) rfl ?_
  refine at_pure_g rfl rfl rfl (by exact pv_loads_box ag_54 rfl (.s (.s (.s (.s (.s (.s (.s (.s (.s (.s (.s .z))))))))))) (.take (.take (.take (.take (.take .done)))))) rfl ?_
  refine at_pure_g rfl rfl rfl (by exact pv_loads_box ag_54 rfl (.s (.s (.s (.s (.s (.s (.s (.s (.s (.s (.s (.s .z)))))))))))) (.take (.take (.take (.take (.take .done)))))) rfl ?_
  refine at_pure_g rfl rfl rfl (pv_neqls_same sb_54 rfl rfl rfl) rfl ?_
  refine at_pure (pv_pick_f rfl rfl rfl) rfl ?_
  refine at_pure (pv_move rfl) rfl ?_
  refine at_pure_g rfl rfl rfl (pv_move rfl) rfl ?_
  refine at_pure_g rfl rfl rfl (pv_move rfl) rfl ?_
  refine at_pure_g rfl rfl rfl (pv_neq_same rfl rfl) rfl ?_
  refine at_pure (pv_pick_f rfl rfl rfl) rfl ?_
  refine at_pure (pv_move rfl) rfl ?_
  refine at_pure_g rfl rfl rfl (pv_move rfl) rfl ?_
  refine at_pure_g rfl rfl rfl (pv_move rfl) rfl ?_
  refine at_pure_g rfl rfl rfl (pv_neq_same rfl rfl) rfl ?_
  refine at_pure (pv_pick_f rfl rfl rfl) rfl ?_
  refine at_nil ?_
  refine ex_go ?_
  refine cd_else rfl rfl ?_
  refine cd_skip ?_
  refine ex_in_normal (ex_go ?_)
  refine cd_region ?_
  refine at_pure (by first | exact pv_add_n rfl rfl (by unfold In64; omega) | exact pv_add rfl rfl) rfl ?_
  refine at_pure (pv_move rfl) rfl ?_
  refine at_nil ?_
  refine ex_round ?_
  refine cd_seq ?_
  refine cd_region ?_
  refine at_pure (pv_lss rfl rfl) rfl ?_
  refine at_nil ?_
  refine ex_go ?_
  refine cd_seq ?_
  refine cd_else rfl (by decide) ?_
  refine cd_exit ?_
  refine ex_then_exit (ex_then_exit (ex_in (ex_in_normal (ex_go ?_))))
  refine cd_region ?_
  refine at_pure (by first | exact pv_add_n rfl rfl (by unfold In64; omega) | exact pv_add rfl rfl) rfl ?_
  refine at_pure (pv_move rfl) rfl ?_
  refine at_nil ?_
  refine ex_round ?_
  refine cd_seq ?_
  refine cd_region ?_
  refine at_pure (pv_lss rfl rfl) rfl ?_
  refine at_nil ?_
  refine ex_go ?_
  refine cd_seq ?_
  refine cd_then rfl (by decide) ?_
  refine cd_skip ?_
  refine ex_go ?_
  refine cd_seq ?_
  refine cd_block ?_
  refine cd_seq ?_
  refine cd_region ?_
  refine at_pure (pv_indexLit Try.underlying56 cz_54 rfl rfl (by decide) rfl) rfl ?_
  refine at_pure (by exact pv_loads_box ag_54 rfl (.s (.s .z)) (.skip (.skip (.skip (.skip (.skip (.take (.take (.take (.take (.take .done))))))))))) rfl ?_
  refine at_does (does_alloc ze_54 .agg (fun _ => (.cons (.cons (.cons (.cons (.cons (.cons (.cons (.cons (.cons (.cons (.cons (.cons (.cons .nil))))))))))))))) rfl (fun g14 => ?_)
  refine at_turns (by exact turns_store sz_54 rfl rfl .agg rfl rfl (.s (.s (.s (.s (.s (.s (.s (.s (.s (.s (.s (.s (.s .z))))))))))))) (.rep (.rep (.rep (.rep (.rep .done))))) (.s (.s (.s (.s (.s (.s (.s (.s (.s (.s (.s (.s (.s .z)))))))))))))) ?_
  refine at_nil ?_
  refine ex_go ?_
  refine cd_seq ?_
  refine cd_seq ?_
  refine cd_draw' 19 follows ?_
  refine dr_take 0 rfl (by kernel_rfl) (by first | exact List.Sublist.refl _ | (repeat first | exact List.Sublist.slnil | exact List.nil_sublist _ | apply List.Sublist.cons_cons | apply List.Sublist.cons)) (by exact pv_loads_box ag_54 rfl (.s (.s (.s (.s (.s (.s (.s (.s (.s (.s (.s (.s (.s .z))))))))))))) (.take (.take (.take (.take (.take .done)))))) rfl ?_
  refine dr_take 2 rfl (by kernel_rfl) (by first | exact List.Sublist.refl _ | (repeat first | exact List.Sublist.slnil | exact List.nil_sublist _ | apply List.Sublist.cons_cons | apply List.Sublist.cons)) (by exact pv_loads_box ag_54 rfl (.s (.s (.s (.s (.s (.s (.s (.s (.s (.s (.s (.s (.s .z))))))))))))) (.take (.take (.take (.take (.take .done)))))) rfl ?_
  refine dr_one 1 (by kernel_rfl) rfl ?_
  refine at_does (does_val cal30 rfl rfl rfl (fun w hs => valid_any _ _ _ _ _ w)) rfl (fun _ => ?_)
  refine at_nil (dr_next (fun _ => (by first | exact List.Sublist.refl _ | (repeat first | exact List.Sublist.slnil | exact List.nil_sublist _ | apply List.Sublist.cons_cons | apply List.Sublist.cons))) ?_)
  refine dr_one 3 (by kernel_rfl) rfl ?_
  refine at_does (does_val cal31 rfl rfl rfl (fun w hs => valid_ref _ _ _ _ _ w)) rfl (fun _ => ?_)
  refine at_nil (dr_next (fun _ => (by first | exact List.Sublist.refl _ | (repeat first | exact List.Sublist.slnil | exact List.nil_sublist _ | apply List.Sublist.cons_cons | apply List.Sublist.cons))) ?_)
  refine dr_take 4 rfl (by kernel_rfl) (by first | exact List.Sublist.refl _ | (repeat first | exact List.Sublist.slnil | exact List.nil_sublist _ | apply List.Sublist.cons_cons | apply List.Sublist.cons)) (pv_neq_b_same Try.underlying4 rfl rfl) rfl ?_
  refine dr_take 5 rfl (by kernel_rfl) (by first | exact List.Sublist.refl _ | (repeat first | exact List.Sublist.slnil | exact List.nil_sublist _ | apply List.Sublist.cons_cons | apply List.Sublist.cons)) (pv_move rfl) rfl ?_
  refine dr_take_g 6 rfl rfl rfl rfl (by kernel_rfl) (by first | exact List.Sublist.refl _ | (repeat first | exact List.Sublist.slnil | exact List.nil_sublist _ | apply List.Sublist.cons_cons | apply List.Sublist.cons)) (by exact pv_loads_box ag_54 rfl (.s (.s (.s (.s (.s (.s (.s (.s (.s (.s (.s (.s (.s .z))))))))))))) (.take (.take (.take (.take (.take .done)))))) rfl ?_
  refine dr_take_g 8 rfl rfl rfl rfl (by kernel_rfl) (by first | exact List.Sublist.refl _ | (repeat first | exact List.Sublist.slnil | exact List.nil_sublist _ | apply List.Sublist.cons_cons | apply List.Sublist.cons)) (by exact pv_loads_box ag_54 rfl (.s (.s (.s (.s (.s (.s (.s (.s (.s (.s (.s (.s (.s .z))))))))))))) (.take (.take (.take (.take (.take .done)))))) rfl ?_
  refine dr_one 7 (by kernel_rfl) rfl ?_
  refine at_does_g rfl rfl rfl (does_val cal32 rfl rfl rfl (fun w hs => state_any _ _ _ _ _ w)) rfl (fun _ => ?_)
  refine at_nil (dr_next (fun _ => (by first | exact List.Sublist.refl _ | (repeat first | exact List.Sublist.slnil | exact List.nil_sublist _ | apply List.Sublist.cons_cons | apply List.Sublist.cons))) ?_)
  refine dr_one 9 (by kernel_rfl) rfl ?_
  refine at_does_g rfl rfl rfl (does_val cal33 rfl rfl rfl (fun w hs => state_ref _ _ _ _ _ w)) rfl (fun _ => ?_)
  refine at_nil (dr_next (fun _ => (by first | exact List.Sublist.refl _ | (repeat first | exact List.Sublist.slnil | exact List.nil_sublist _ | apply List.Sublist.cons_cons | apply List.Sublist.cons))) ?_)
  refine dr_take_g 10 rfl rfl rfl rfl (by kernel_rfl) (by first | exact List.Sublist.refl _ | (repeat first | exact List.Sublist.slnil | exact List.nil_sublist _ | apply List.Sublist.cons_cons | apply List.Sublist.cons)) (pv_neq_same rfl rfl) rfl ?_
  refine dr_take 11 rfl (by kernel_rfl) (by first | exact List.Sublist.refl _ | (repeat first | exact List.Sublist.slnil | exact List.nil_sublist _ | apply List.Sublist.cons_cons | apply List.Sublist.cons)) (pv_pick_f rfl rfl rfl) rfl ?_
  refine dr_take 12 rfl (by kernel_rfl) (by first | exact List.Sublist.refl _ | (repeat first | exact List.Sublist.slnil | exact List.nil_sublist _ | apply List.Sublist.cons_cons | apply List.Sublist.cons)) (pv_move rfl) rfl ?_
  refine dr_take_g 13 rfl rfl rfl rfl (by kernel_rfl) (by first | exact List.Sublist.refl _ | (repeat first | exact List.Sublist.slnil | exact List.nil_sublist _ | apply List.Sublist.cons_cons | apply List.Sublist.cons)) (by exact pv_loads_box ag_54 rfl (.s (.s (.s (.s (.s (.s (.s (.s (.s (.s (.s (.s (.s .z))))))))))))) (.take (.take (.take (.take (.take .done)))))) rfl ?_
  refine dr_take_g 15 rfl rfl rfl rfl (by kernel_rfl) (by first | exact List.Sublist.refl _ | (repeat first | exact List.Sublist.slnil | exact List.nil_sublist _ | apply List.Sublist.cons_cons | apply List.Sublist.cons)) (by exact pv_loads_box ag_54 rfl (.s (.s (.s (.s (.s (.s (.s (.s (.s (.s (.s (.s (.s .z))))))))))))) (.take (.take (.take (.take (.take .done)))))) rfl ?_
  refine dr_one 14 (by kernel_rfl) rfl ?_
  refine at_does_g rfl rfl rfl (does_val cal34 rfl rfl rfl (fun w hs => die_any _ _ _ _ _ w)) rfl (fun _ => ?_)
  refine at_nil (dr_next (fun _ => (by first | exact List.Sublist.refl _ | (repeat first | exact List.Sublist.slnil | exact List.nil_sublist _ | apply List.Sublist.cons_cons | apply List.Sublist.cons))) ?_)
  refine dr_one 16 (by kernel_rfl) rfl ?_
  refine at_does_g rfl rfl rfl (does_val cal35 rfl rfl rfl (fun w hs => die_ref _ _ _ _ _ w)) rfl (fun _ => ?_)
  refine at_nil (dr_next (fun _ => (by first | exact List.Sublist.refl _ | (repeat first | exact List.Sublist.slnil | exact List.nil_sublist _ | apply List.Sublist.cons_cons | apply List.Sublist.cons))) ?_)
  refine dr_take_g 17 rfl rfl rfl rfl (by kernel_rfl) (by first | exact List.Sublist.refl _ | (repeat first | exact List.Sublist.slnil | exact List.nil_sublist _ | apply List.Sublist.cons_cons | apply List.Sublist.cons)) (pv_neqls_same sb_54 rfl rfl rfl) rfl ?_
  refine dr_take 18 rfl (by kernel_rfl) (by first | exact List.Sublist.refl _ | (repeat first | exact List.Sublist.slnil | exact List.nil_sublist _ | apply List.Sublist.cons_cons | apply List.Sublist.cons)) (pv_pick_f rfl rfl rfl) rfl ?_
  refine dr_done (by kernel_rfl) ?_
  refine ex_go ?_
  refine cd_else rfl rfl ?_
  refine cd_skip ?_
  refine ex_go ?_
  refine cd_seq ?_
  refine cd_region ?_
  refine at_pure (pv_move rfl) rfl ?_
  refine at_pure (pv_move rfl) rfl ?_
  refine at_does (does_val cal12 rfl rfl rfl (fun w hs => mod_any _ _ w (by decide))) rfl (fun _ => ?_)
  refine at_does (does_list (by rfl) (by exact (bs_36_2_0_1 _ _)) (by exact (fun _ => (.cons (.cons (.cons (.cons (.cons (.cons (.cons (.cons (.cons (.cons (.cons (.cons (.cons (.cons .nil))))))))))))))))) rfl (fun g15 => ?_)
  refine at_pure (pv_len Try.underlying36 rfl) rfl ?_
  refine at_pure (pv_move rfl) rfl ?_
  refine at_nil ?_
  refine ex_go ?_
  refine cd_block ?_
  refine cd_rounds 2 ?_
  refine cd_seq ?_
  refine cd_region ?_
  refine at_pure (pv_lss rfl rfl) rfl ?_
  refine at_nil ?_
  refine ex_go ?_
  refine cd_seq ?_
  refine cd_then rfl (by decide) ?_
  refine cd_skip ?_
  refine ex_go ?_
  refine cd_seq ?_
  refine cd_block ?_
  refine cd_seq ?_
  refine cd_region ?_
  refine at_pure (pv_indexLit Try.underlying36 cz_3 rfl rfl (by decide) rfl) rfl ?_
  refine at_pure (by exact pv_load ld_3 rfl (box_cell (.s (.s (.s (.s (.s (.s (.s (.s (.s (.s (.s (.s (.s (.s .z)))))))))))))) .z)) rfl ?_
  refine at_pure (pv_assign rfl) rfl ?_
  refine at_nil ?_
  refine ex_go ?_
  refine cd_seq ?_
  refine cd_region ?_
  refine at_pure (by exact pv_loads_box ag_54 rfl (.s (.s (.s (.s (.s (.s (.s (.s (.s (.s (.s (.s (.s .z))))))))))))) (.take (.take (.take (.take (.take .done)))))) rfl ?_
  refine at_pure (pv_move rfl) rfl ?_
  refine at_does (does_val cal36 rfl rfl rfl (fun w hs => wrote_any _ _ _ _ _ _ w)) rfl (fun _ => ?_)
  refine at_pure (pv_move rfl) rfl ?_
  refine at_pure (pv_extract rfl rfl) rfl ?_
  refine at_pure (pv_extract rfl rfl) rfl ?_
  refine at_does (does_alloc ze_54 .agg (fun _ => (.cons (.cons (.cons (.cons (.cons (.cons (.cons (.cons (.cons (.cons (.cons (.cons (.cons (.cons (.cons .nil))))))))))))))))) rfl (fun g16 => ?_)
  refine at_turns (by exact turns_store sz_54 rfl rfl .agg rfl rfl (.s (.s (.s (.s (.s (.s (.s (.s (.s (.s (.s (.s (.s (.s (.s .z))))))))))))))) (.rep (.rep (.rep (.rep (.rep .done))))) (.s (.s (.s (.s (.s (.s (.s (.s (.s (.s (.s (.s (.s (.s (.s .z)))))))))))))))) ?_
  refine at_pure (pv_assign rfl) rfl ?_
  refine at_nil ?_
  refine ex_go ?_
  refine cd_seq ?_
  refine cd_region ?_
  refine at_pure (by exact pv_loads_box ag_54 rfl (.s (.s (.s (.s (.s (.s (.s (.s (.s (.s (.s (.s (.s .z))))))))))))) (.take (.take (.take (.take (.take .done)))))) rfl ?_
  refine at_pure (pv_move rfl) rfl ?_
  refine at_does (does_val cal37 rfl rfl rfl (fun w hs => wrote_ref _ _ _ _ _ _ w)) rfl (fun _ => ?_)
  refine at_pure (pv_move rfl) rfl ?_
  refine at_pure (pv_extract rfl rfl) rfl ?_
  refine at_pure (pv_extract rfl rfl) rfl ?_
  refine at_does (does_alloc ze_54 .agg (fun _ => (.cons (.cons (.cons (.cons (.cons (.cons (.cons (.cons (.cons (.cons (.cons (.cons (.cons (.cons (.cons (.cons .nil)))))))))))))))))) rfl (fun g17 => ?_)
  refine at_turns (by exact turns_store sz_54 rfl rfl .agg rfl rfl (.s (.s (.s (.s (.s (.s (.s (.s (.s (.s (.s (.s (.s (.s (.s (.s .z)))))))))))))))) (.rep (.rep (.rep (.rep (.rep .done))))) (.s (.s (.s (.s (.s (.s (.s (.s (.s (.s (.s (.s (.s (.s (.s (.s .z))))))))))))))))) ?_
  refine at_pure (pv_assign rfl) rfl ?_
  refine at_nil ?_
  refine ex_go ?_
  refine cd_seq ?_
  refine cd_region ?_
  refine at_pure (by exact pv_loads_box ag_54 rfl (.s (.s (.s (.s (.s (.s (.s (.s (.s (.s (.s (.s (.s .z))))))))))))) (.take (.take (.take (.take (.take .done)))))) rfl ?_
  refine at_pure (pv_move rfl) rfl ?_
  refine at_does (does_val cal38 rfl rfl rfl (fun w hs => tick_any _ _ _ _ _ _ w (by omega))) rfl (fun _ => ?_)
  refine at_pure (pv_move rfl) rfl ?_
  refine at_pure (pv_extract rfl rfl) rfl ?_
  refine at_pure (pv_extract rfl rfl) rfl ?_
  refine at_pure (pv_extract rfl rfl) rfl ?_
  refine at_does (does_alloc ze_54 .agg (fun _ => (.cons (.cons (.cons (.cons (.cons (.cons (.cons (.cons (.cons (.cons (.cons (.cons (.cons (.cons (.cons (.cons (.cons .nil))))))))))))))))))) rfl (fun g18 => ?_)
  refine at_turns (by exact turns_store sz_54 rfl rfl .agg rfl rfl (.s (.s (.s (.s (.s (.s (.s (.s (.s (.s (.s (.s (.s (.s (.s (.s (.s .z))))))))))))))))) (.rep (.rep (.rep (.rep (.rep .done))))) (.s (.s (.s (.s (.s (.s (.s (.s (.s (.s (.s (.s (.s (.s (.s (.s (.s .z)))))))))))))))))) ?_
  refine at_pure (pv_assign rfl) rfl ?_
  refine at_pure (pv_assign rfl) rfl ?_
  refine at_nil ?_
  refine ex_go ?_
  refine cd_seq ?_
  refine cd_region ?_
  refine at_pure (by exact pv_loads_box ag_54 rfl (.s (.s (.s (.s (.s (.s (.s (.s (.s (.s (.s (.s (.s .z))))))))))))) (.take (.take (.take (.take (.take .done)))))) rfl ?_
  refine at_pure (pv_move rfl) rfl ?_
  refine at_does (does_val cal39 rfl rfl rfl (fun w hs => tick_ref _ _ _ _ _ _ w (by omega))) rfl (fun _ => ?_)
  refine at_pure (pv_move rfl) rfl ?_
  refine at_pure (pv_extract rfl rfl) rfl ?_
  refine at_pure (pv_extract rfl rfl) rfl ?_
  refine at_pure (pv_extract rfl rfl) rfl ?_
  refine at_does (does_alloc ze_54 .agg (fun _ => (.cons (.cons (.cons (.cons (.cons (.cons (.cons (.cons (.cons (.cons (.cons (.cons (.cons (.cons (.cons (.cons (.cons (.cons .nil)))))))))))))))))))) rfl (fun g19 => ?_)
  refine at_turns (by exact turns_store sz_54 rfl rfl .agg rfl rfl (.s (.s (.s (.s (.s (.s (.s (.s (.s (.s (.s (.s (.s (.s (.s (.s (.s (.s .z)))))))))))))))))) (.rep (.rep (.rep (.rep (.rep .done))))) (.s (.s (.s (.s (.s (.s (.s (.s (.s (.s (.s (.s (.s (.s (.s (.s (.s (.s .z))))))))))))))))))) ?_
  refine at_pure (pv_assign rfl) rfl ?_
  refine at_pure (pv_assign rfl) rfl ?_
  refine at_nil ?_
  refine ex_go ?_
  refine cd_seq ?_
  refine cd_region ?_
  refine at_pure (by exact pv_loads_box ag_54 rfl (.s (.s (.s (.s (.s (.s (.s (.s (.s (.s (.s (.s (.s (.s (.s .z))))))))))))))) (.take (.take (.take (.take (.take .done)))))) rfl ?_
  refine at_pure (by exact pv_loads_box ag_54 rfl (.s (.s (.s (.s (.s (.s (.s (.s (.s (.s (.s (.s (.s (.s (.s (.s .z)))))))))))))))) (.take (.take (.take (.take (.take .done)))))) rfl ?_
  refine at_pure (pv_neqls_same sb_54 rfl rfl rfl) rfl ?_
  refine at_pure (pv_move rfl) rfl ?_
  refine at_pure_g rfl rfl rfl (pv_move rfl) rfl ?_
  refine at_pure_g rfl rfl rfl (pv_move rfl) rfl ?_
  refine at_pure_g rfl rfl rfl (pv_neq_same rfl rfl) rfl ?_
  refine at_pure (pv_pick_f rfl rfl rfl) rfl ?_
  refine at_pure (pv_move rfl) rfl ?_
  refine at_pure_g rfl rfl rfl (by exact pv_loads_box ag_54 rfl (.s (.s (.s (.s (.s (.s (.s (.s (.s (.s (.s (.s (.s (.s (.s (.s (.s .z))))))))))))))))) (.take (.take (.take (.take (.take .done)))))) rfl ?_
  refine at_pure_g rfl rfl rfl (by exact pv_loads_box ag_54 rfl (.s (.s (.s (.s (.s (.s (.s (.s (.s (.s (.s (.s (.s (.s (.s (.s (.s (.s .z)))))))))))))))))) (.take (.take (.take (.take (.take .done)))))) rfl ?_
  refine at_pure_g rfl rfl rfl (pv_neqls_same sb_54 rfl rfl rfl) rfl ?_
  refine at_pure (pv_pick_f rfl rfl rfl) rfl ?_
  refine at_pure (pv_move rfl) rfl ?_
  refine at_pure_g rfl rfl rfl (pv_move rfl) rfl ?_
  refine at_pure_g rfl rfl rfl (pv_move rfl) rfl ?_
  refine at_pure_g rfl rfl rfl (pv_neq_same rfl rfl) rfl ?_
  refine at_pure (pv_pick_f rfl rfl rfl) rfl ?_
  refine at_pure (pv_move rfl) rfl ?_
  refine at_pure_g rfl rfl rfl (pv_move rfl) rfl ?_
  refine at_pure_g rfl rfl rfl (pv_move rfl) rfl ?_
  refine at_pure_g rfl rfl rfl (pv_neq_same rfl rfl) rfl ?_
  refine at_pure (pv_pick_f rfl rfl rfl) rfl ?_
  refine at_nil ?_
  refine ex_go ?_
  refine cd_else rfl rfl ?_
  refine cd_skip ?_
  refine ex_in_normal (ex_go ?_)
  refine cd_region ?_
  refine at_pure (by first | exact pv_add_n rfl rfl (by unfold In64; omega) | exact pv_add rfl rfl) rfl ?_
  refine at_pure (pv_move rfl) rfl ?_
  refine at_nil ?_
  refine ex_round ?_
  refine cd_seq ?_
  refine cd_region ?_
  refine at_pure (pv_lss rfl rfl) rfl ?_
  refine at_nil ?_
  refine ex_go ?_
  refine cd_seq ?_
  refine cd_then rfl (by decide) ?_
  refine cd_skip ?_
  refine ex_go ?_
  refine cd_seq ?_
  refine cd_block ?_
  refine cd_seq ?_
  refine cd_region ?_
  refine at_pure (pv_indexLit Try.underlying36 cz_3 rfl rfl (by decide) rfl) rfl ?_
  refine at_pure (by exact pv_load ld_3 rfl (box_cell (.s (.s (.s (.s (.s (.s (.s (.s (.s (.s (.s (.s (.s (.s .z)))))))))))))) (.s .z))) rfl ?_
  refine at_pure (pv_assign rfl) rfl ?_
  refine at_nil ?_
  refine ex_go ?_
  refine cd_seq ?_
  refine cd_region ?_
  refine at_pure (by exact pv_loads_box ag_54 rfl (.s (.s (.s (.s (.s (.s (.s (.s (.s (.s (.s (.s (.s .z))))))))))))) (.take (.take (.take (.take (.take .done)))))) rfl ?_
  refine at_pure (pv_move rfl) rfl ?_
  refine at_does (does_val cal36 rfl rfl rfl (fun w hs => wrote_any _ _ _ _ _ _ w)) rfl (fun _ => ?_)
  refine at_pure (pv_move rfl) rfl ?_
  refine at_pure (pv_extract rfl rfl) rfl ?_
  refine at_pure (pv_extract rfl rfl) rfl ?_
  refine at_does (does_alloc ze_54 .agg (fun _ => (.cons (.cons (.cons (.cons (.cons (.cons (.cons (.cons (.cons (.cons (.cons (.cons (.cons (.cons (.cons (.cons (.cons (.cons (.cons .nil))))))))))))))))))))) rfl (fun g20 => ?_)
  refine at_turns (by exact turns_store sz_54 rfl rfl .agg rfl rfl (.s (.s (.s (.s (.s (.s (.s (.s (.s (.s (.s (.s (.s (.s (.s (.s (.s (.s (.s .z))))))))))))))))))) (.rep (.rep (.rep (.rep (.rep .done))))) (.s (.s (.s (.s (.s (.s (.s (.s (.s (.s (.s (.s (.s (.s (.s (.s (.s (.s (.s .z)))))))))))))))))))) ?_
  refine at_pure (pv_assign rfl) rfl ?_
  refine at_nil ?_
  refine ex_go ?_
  refine cd_seq ?_
  refine cd_region ?_
  refine at_pure (by exact pv_loads_box ag_54 rfl (.s (.s (.s (.s (.s (.s (.s (.s (.s (.s (.s (.s (.s .z))))))))))))) (.take (.take (.take (.take (.take .done)))))) rfl ?_
  refine at_pure (pv_move rfl) rfl ?_
  refine at_does (does_val cal37 rfl rfl rfl (fun w hs => wrote_ref _ _ _ _ _ _ w)) rfl (fun _ => ?_)
  refine at_pure (pv_move rfl) rfl ?_
  refine at_pure (pv_extract rfl rfl) rfl ?_
  refine at_pure (pv_extract rfl rfl) rfl ?_
  refine at_does (does_alloc ze_54 .agg (fun _ => (.cons (.cons (.cons (.cons (.cons (.cons (.cons (.cons (.cons (.cons (.cons (.cons (.cons (.cons (.cons (.cons (.cons (.cons (.cons (.cons .nil)))))))))))))))))))))) rfl (fun g21 => ?_)
  refine at_turns (by exact turns_store sz_54 rfl rfl .agg rfl rfl (.s (.s (.s (.s (.s (.s (.s (.s (.s (.s (.s (.s (.s (.s (.s (.s (.s (.s (.s (.s .z)))))))))))))))))))) (.rep (.rep (.rep (.rep (.rep .done))))) (.s (.s (.s (.s (.s (.s (.s (.s (.s (.s (.s (.s (.s (.s (.s (.s (.s (.s (.s (.s .z))))))))))))))))))))) ?_
  refine at_pure (pv_assign rfl) rfl ?_
  refine at_nil ?_
  refine ex_go ?_
  refine cd_seq ?_
  refine cd_region ?_
  refine at_pure (by exact pv_loads_box ag_54 rfl (.s (.s (.s (.s (.s (.s (.s (.s (.s (.s (.s (.s (.s .z))))))))))))) (.take (.take (.take (.take (.take .done)))))) rfl ?_
  refine at_pure (pv_move rfl) rfl ?_
  refine at_does (does_val cal38 rfl rfl rfl (fun w hs => tick_any _ _ _ _ _ _ w (by omega))) rfl (fun _ => ?_)
  refine at_pure (pv_move rfl) rfl ?_
  refine at_pure (pv_extract rfl rfl) rfl ?_
  refine at_pure (pv_extract rfl rfl) rfl ?_
  refine at_pure (pv_extract rfl rfl) rfl ?_
  refine at_does (does_alloc ze_54 .agg (fun _ => (.cons (.cons (.cons (.cons (.cons (.cons (.cons (.cons (.cons (.cons (.cons (.cons (.cons (.cons (.cons (.cons (.cons (.cons (.cons (.cons (.cons .nil))))))))))))))))))))))) rfl (fun g22 => ?_)
  refine at_turns (by exact turns_store sz_54 rfl rfl .agg rfl rfl (.s (.s (.s (.s (.s (.s (.s (.s (.s (.s (.s (.s (.s (.s (.s (.s (.s (.s (.s (.s (.s .z))))))))))))))))))))) (.rep (.rep (.rep (.rep (.rep .done))))) (.s (.s (.s (.s (.s (.s (.s (.s (.s (.s (.s (.s (.s (.s (.s (.s (.s (.s (.s (.s (.s .z)))))))))))))))))))))) ?_
  refine at_pure (pv_assign rfl) rfl ?_
  refine at_pure (pv_assign rfl) rfl ?_
  refine at_nil ?_
  refine ex_go ?_
  refine cd_seq ?_
  refine cd_region ?_
  refine at_pure (by exact pv_loads_box ag_54 rfl (.s (.s (.s (.s (.s (.s (.s (.s (.s (.s (.s (.s (.s .z))))))))))))) (.take (.take (.take (.take (.take .done)))))) rfl ?_
  refine at_pure (pv_move rfl) rfl ?_
  refine at_does (does_val cal39 rfl rfl rfl (fun w hs => tick_ref _ _ _ _ _ _ w (by omega))) rfl (fun _ => ?_)
  refine at_pure (pv_move rfl) rfl ?_
  refine at_pure (pv_extract rfl rfl) rfl ?_
  refine at_pure (pv_extract rfl rfl) rfl ?_
  refine at_pure (pv_extract rfl rfl) rfl ?_
  refine at_does (does_alloc ze_54 .agg (fun _ => (.cons (.cons (.cons (.cons (.cons (.cons (.cons (.cons (.cons (.cons (.cons (.cons (.cons (.cons (.cons (.cons (.cons (.cons (.cons (.cons (.cons (.cons .nil)))))))))))))))))))))))) rfl (fun g23 => ?_)
  refine at_turns (by exact turns_store sz_54 rfl rfl .agg rfl rfl (.s (.s (.s (.s (.s (.s (.s (.s (.s (.s (.s (.s (.s (.s (.s (.s (.s (.s (.s (.s (.s (.s .z)))))))))))))))))))))) (.rep (.rep (.rep (.rep (.rep .done))))) (.s (.s (.s (.s (.s (.s (.s (.s (.s (.s (.s (.s (.s (.s (.s (.s (.s (.s (.s (.s (.s (.s .z))))))))))))))))))))))) ?_
  refine at_pure (pv_assign rfl) rfl ?_
  refine at_pure (pv_assign rfl) rfl ?_
  refine at_nil ?_
  refine ex_go ?_
  refine cd_seq ?_
  refine cd_region ?_
  refine at_pure (by exact pv_loads_box ag_54 rfl (.s (.s (.s (.s (.s (.s (.s (.s (.s (.s (.s (.s (.s (.s (.s (.s (.s (.s (.s .z))))))))))))))))))) (.take (.take (.take (.take (.take .done)))))) rfl ?_
  refine at_pure (by exact pv_loads_box ag_54 rfl (.s (.s (.s (.s (.s (.s (.s (.s (.s (.s (.s (.s (.s (.s (.s (.s (.s (.s (.s (.s .z)))))))))))))))))))) (.take (.take (.take (.take (.take .done)))))) rfl ?_
  refine at_pure (pv_neqls_same sb_54 rfl rfl rfl) rfl ?_
  refine at_pure (pv_move rfl) rfl ?_
  refine at_pure_g rfl rfl rfl (pv_move rfl) rfl ?_
  refine at_pure_g rfl rfl rfl (pv_move rfl) rfl ?_
  refine at_pure_g rfl rfl rfl (pv_neq_same rfl rfl) rfl ?_
  refine at_pure (pv_pick_f rfl rfl rfl) rfl ?_
  refine at_pure (pv_move rfl) rfl ?_
  refine at_pure_g rfl rfl rfl (by exact pv_loads_box ag_54 rfl (.s (.s (.s (.s (.s (.s (.s (.s (.s (.s (.s (.s (.s (.s (.s (.s (.s (.s (.s (.s (.s .z))))))))))))))))))))) (.take (.take (.take (.take (.take .done)))))) rfl ?_
  refine at_pure_g rfl rfl rfl (by exact pv_loads_box ag_54 rfl (.s (.s (.s (.s (.s (.s (.s (.s (.s (.s (.s (.s (.s (.s (.s (.s (.s (.s (.s (.s (.s (.s .z)))))))))))))))))))))) (.take (.take (.take (.take (.take .done)))))) rfl ?_
  refine at_pure_g rfl rfl rfl (pv_neqls_same sb_54 rfl rfl rfl) rfl ?_
  refine at_pure (pv_pick_f rfl rfl rfl) rfl ?_
  refine at_pure (pv_move rfl) rfl ?_
  refine at_pure_g rfl rfl rfl (pv_move rfl) rfl ?_
  refine at_pure_g rfl rfl rfl (pv_move rfl) rfl ?_
  refine at_pure_g rfl rfl rfl (pv_neq_same rfl rfl) rfl ?_
  refine at_pure (pv_pick_f rfl rfl rfl) rfl ?_
  refine at_pure (pv_move rfl) rfl ?_
  refine at_pure_g rfl rfl rfl (pv_move rfl) rfl ?_
  refine at_pure_g rfl rfl rfl (pv_move rfl) rfl ?_
  refine at_pure_g rfl rfl rfl (pv_neq_same rfl rfl) rfl ?_
  refine at_pure (pv_pick_f rfl rfl rfl) rfl ?_
  refine at_nil ?_
  refine ex_go ?_
  refine cd_else rfl rfl ?_
  refine cd_skip ?_
  refine ex_in_normal (ex_go ?_)
  refine cd_region ?_
  refine at_pure (by first | exact pv_add_n rfl rfl (by unfold In64; omega) | exact pv_add rfl rfl) rfl ?_
  refine at_pure (pv_move rfl) rfl ?_
  refine at_nil ?_
  refine ex_round ?_
  refine cd_seq ?_
  refine cd_region ?_
  refine at_pure (pv_lss rfl rfl) rfl ?_
  refine at_nil ?_
  refine ex_go ?_
  refine cd_seq ?_
  refine cd_else rfl (by decide) ?_
  refine cd_exit ?_
  refine ex_then_exit (ex_then_exit (ex_in (ex_in_normal (ex_go ?_))))
  refine cd_region ?_
  refine at_pure (by first | exact pv_add_n rfl rfl (by unfold In64; omega) | exact pv_add rfl rfl) rfl ?_
  refine at_pure (pv_move rfl) rfl ?_
  refine at_nil ?_
  refine ex_round ?_
  refine cd_seq ?_
  refine cd_region ?_
  refine at_pure (pv_lss rfl rfl) rfl ?_
  refine at_nil ?_
  refine ex_go ?_
  refine cd_seq ?_
  refine cd_else rfl (by decide) ?_
  refine cd_exit ?_
  refine ex_then_exit (ex_then_exit (ex_in (ex_go ?_)))
  refine cd_seq ?_
  refine cd_region ?_
  refine at_pure (pv_move rfl) rfl ?_
  refine at_does (does_val cal40 rfl rfl rfl (fun w hs => new_c _ w)) rfl (fun _ => ?_)
  refine at_pure (pv_move rfl) rfl ?_
  refine at_pure (pv_extract rfl rfl) rfl ?_
  refine at_pure (pv_extract rfl rfl) rfl ?_
  refine at_does (does_alloc ze_54 .agg (fun _ => (.cons (.cons (.cons (.cons (.cons (.cons (.cons (.cons (.cons (.cons (.cons (.cons (.cons (.cons (.cons (.cons (.cons (.cons (.cons (.cons (.cons (.cons (.cons .nil))))))))))))))))))))))))) rfl (fun g24 => ?_)
  refine at_turns (by exact turns_store sz_54 rfl rfl .agg rfl rfl (.s (.s (.s (.s (.s (.s (.s (.s (.s (.s (.s (.s (.s (.s (.s (.s (.s (.s (.s (.s (.s (.s (.s .z))))))))))))))))))))))) (.rep (.rep (.rep (.rep (.rep .done))))) (.s (.s (.s (.s (.s (.s (.s (.s (.s (.s (.s (.s (.s (.s (.s (.s (.s (.s (.s (.s (.s (.s (.s .z)))))))))))))))))))))))) ?_
  refine at_pure (pv_assign rfl) rfl ?_
  refine at_nil ?_
  refine ex_go ?_
  refine cd_seq ?_
  refine cd_region ?_
  refine at_pure (pv_move rfl) rfl ?_
  refine at_does (does_val cal41 rfl rfl rfl (fun w hs => new_ref _ w)) rfl (fun _ => ?_)
  refine at_pure (pv_move rfl) rfl ?_
  refine at_pure (pv_extract rfl rfl) rfl ?_
  refine at_pure (pv_extract rfl rfl) rfl ?_
  refine at_does (does_alloc ze_54 .agg (fun _ => (.cons (.cons (.cons (.cons (.cons (.cons (.cons (.cons (.cons (.cons (.cons (.cons (.cons (.cons (.cons (.cons (.cons (.cons (.cons (.cons (.cons (.cons (.cons (.cons .nil)))))))))))))))))))))))))) rfl (fun g25 => ?_)
  refine at_turns (by exact turns_store sz_54 rfl rfl .agg rfl rfl (.s (.s (.s (.s (.s (.s (.s (.s (.s (.s (.s (.s (.s (.s (.s (.s (.s (.s (.s (.s (.s (.s (.s (.s .z)))))))))))))))))))))))) (.rep (.rep (.rep (.rep (.rep .done))))) (.s (.s (.s (.s (.s (.s (.s (.s (.s (.s (.s (.s (.s (.s (.s (.s (.s (.s (.s (.s (.s (.s (.s (.s .z))))))))))))))))))))))))) ?_
  refine at_pure (pv_assign rfl) rfl ?_
  refine at_nil ?_
  refine ex_go ?_
  refine cd_seq ?_
  refine cd_region ?_
  refine at_pure (by exact pv_loads_box ag_54 rfl (.s (.s (.s (.s (.s (.s (.s (.s (.s (.s (.s (.s (.s (.s (.s (.s (.s (.s (.s (.s (.s (.s (.s .z))))))))))))))))))))))) (.take (.take (.take (.take (.take .done)))))) rfl ?_
  refine at_pure (by exact pv_loads_box ag_54 rfl (.s (.s (.s (.s (.s (.s (.s (.s (.s (.s (.s (.s (.s (.s (.s (.s (.s (.s (.s (.s (.s (.s (.s (.s .z)))))))))))))))))))))))) (.take (.take (.take (.take (.take .done)))))) rfl ?_
  refine at_pure (pv_eqls_same sb_54 rfl rfl rfl) rfl ?_
  refine at_pure (pv_move rfl) rfl ?_
  refine at_pure_g rfl rfl rfl (pv_move rfl) rfl ?_
  refine at_pure_g rfl rfl rfl (pv_move rfl) rfl ?_
  refine at_pure_g rfl rfl rfl (pv_eql_same rfl rfl) rfl ?_
  refine at_pure (pv_pick_t rfl rfl rfl) rfl ?_
  refine at_pure (pv_assign rfl) rfl ?_
  refine at_nil ?_
  refine ex_go ?_
  refine cd_ret ?_
  exact end_ret1 rfl rfl (fun w hs => Val.mk hs)

theorem whole_facts (x y : Int) (hx : 0 ≤ x) (hy : 1 ≤ y) : wholeI x y * y ≤ x ∧ x < (wholeI x y + 1) * y ∧ 0 ≤ wholeI x y ∧ wholeI x y ≤ x := by
  unfold wholeI
  rw [if_neg (by omega)]
  have h1 := Int.ediv_mul_le x (show y ≠ 0 by omega)
  have h2 := Int.lt_ediv_add_one_mul_self x (show 0 < y by omega)
  have h3 := Int.ediv_nonneg hx (show 0 ≤ y by omega)
  have h4 := Int.ediv_le_self y hx
  exact ⟨h1, h2, h3, h4⟩
theorem mul_small (q y : Int) (h1 : 0 ≤ q) (h2 : q ≤ 5000) (h3 : 1 ≤ y) (h4 : y ≤ 40) : 0 ≤ q * y ∧ q * y ≤ 200000 := by
  refine ⟨Int.mul_nonneg h1 (by omega), ?_⟩
  have := Int.mul_le_mul h2 h4 (by omega) (by omega)
  omega

theorem clientWhole_any (x y : Int) (w : World) (hx : x ≤ 9223372036854775807) : Calls Try.prog 10 [.int .i64 x, .int .i64 y].toArray w (Val (.bool true) w) := by
  refine calls_body (n := 40) Try.func10 rfl rfl rfl (St.init _ []) ?_
  refine cd_seq ?_
  refine cd_region ?_
  refine at_pure (pv_assign rfl) rfl ?_
  refine at_nil ?_
  refine ex_go ?_
  refine cd_seq ?_
  refine cd_seq ?_
  refine cd_region ?_
  refine at_does (does_val cal28 rfl rfl rfl (fun w hs => sane_client w)) rfl (fun _ => ?_)
  refine at_pure (pv_not rfl) rfl ?_
  refine at_nil ?_
  refine ex_go ?_
  refine cd_else rfl rfl ?_
  refine cd_skip ?_
  refine ex_go ?_
  refine cd_seq ?_
  refine cd_region ?_
  refine at_pure (pv_move rfl) rfl ?_
  refine at_does (does_val cal12 rfl rfl rfl (fun w hs => mod_any _ _ w (by decide))) rfl (fun _ => ?_)
  refine at_pure (by first | exact pv_add_n rfl rfl (by unfold In64; omega) | exact pv_add rfl rfl) rfl ?_
  refine at_pure (pv_assign rfl) rfl ?_
  refine at_nil ?_
  refine ex_go ?_
  refine cd_seq ?_
  generalize hY : 1 + y % 40 = Y
  have hY1 : 1 ≤ Y ∧ Y ≤ 40 := by omega
  refine cd_region ?_
  refine at_pure (pv_move rfl) rfl ?_
  refine at_does (does_val cal12 rfl rfl rfl (fun w hs => mod_any _ _ w (by decide))) rfl (fun _ => ?_)
  refine at_pure (pv_move rfl) rfl ?_
  refine at_does (does_val cal46 rfl rfl rfl (fun w hs => whole_any _ _ w (by omega))) rfl (fun _ => ?_)
  refine at_pure (pv_assign rfl) rfl ?_
  refine at_nil ?_
  refine ex_go ?_
  refine cd_seq ?_
  have hX1 : 0 ≤ x % 5000 ∧ x % 5000 < 5000 := by omega
  have hq := whole_facts (x % 5000) Y hX1.1 hY1.1
  generalize wholeI (x % 5000) Y = q at hq ⊢
  have hm1 := mul_small q Y hq.2.2.1 (by omega) hY1.1 hY1.2
  have hm2 := mul_small (q + 1) Y (by omega) (by omega) hY1.1 hY1.2
  refine cd_region ?_
  refine at_pure (pv_move rfl) rfl ?_
  refine at_pure (pv_move rfl) rfl ?_
  refine at_does (does_val cal46 rfl rfl rfl (fun w hs => whole_any _ _ w (by omega))) rfl (fun _ => ?_)
  refine at_pure (pv_move rfl) rfl ?_
  refine at_pure (pv_move rfl) rfl ?_
  refine at_does (does_val cal47 rfl rfl rfl (fun w hs => whole_ref _ _ w (by omega))) rfl (fun _ => ?_)
  refine at_pure (pv_eql_same rfl rfl) rfl ?_
  refine at_pure (pv_move rfl) rfl ?_
  refine at_pure_g rfl rfl rfl (pv_move rfl) rfl ?_
  refine at_pure_g rfl rfl rfl (pv_move rfl) rfl ?_
  refine at_pure_g rfl rfl rfl (by first | exact pv_mul_n rfl rfl (by unfold In64; omega) | exact pv_mul rfl rfl) rfl ?_
  refine at_pure_g rfl rfl rfl (pv_move rfl) rfl ?_
  refine at_does_g rfl rfl rfl (does_val cal12 rfl rfl rfl (fun w hs => mod_any _ _ w (by decide))) rfl (fun _ => ?_)
  refine at_pure_g rfl rfl rfl (pv_leq rfl rfl) rfl ?_
  refine at_pure (pv_pick_t rfl rfl rfl) rfl ?_
  refine at_pure (pv_move rfl) rfl ?_
  refine at_pure_g rfl rfl (decide_eq_true (by omega)) (pv_move rfl) rfl ?_
  refine at_pure_g rfl rfl (decide_eq_true (by omega)) (by first | exact pv_add_n rfl rfl (by unfold In64; omega) | exact pv_add rfl rfl) rfl ?_
  refine at_pure_g rfl rfl (decide_eq_true (by omega)) (pv_move rfl) rfl ?_
  refine at_pure_g rfl rfl (decide_eq_true (by omega)) (by first | exact pv_mul_n rfl rfl (by unfold In64; omega) | exact pv_mul rfl rfl) rfl ?_
  refine at_pure_g rfl rfl (decide_eq_true (by omega)) (pv_move rfl) rfl ?_
  refine at_does_g rfl rfl (decide_eq_true (by omega)) (does_val cal12 rfl rfl rfl (fun w hs => mod_any _ _ w (by decide))) rfl (fun _ => ?_)
  refine at_pure_g rfl rfl (decide_eq_true (by omega)) (pv_gtr rfl rfl) rfl ?_
  refine at_pure (pv_pick_t rfl (decide_eq_true (by omega)) rfl) rfl ?_
  refine at_pure (pv_assign rfl) rfl ?_
  refine at_nil ?_
  refine ex_go ?_
  refine cd_ret ?_
  exact end_ret1 rfl rfl (fun w hs => ⟨by rw [decide_eq_true hq.2.1], hs.keep⟩)

end Go.Proofs.Ytaflnbnikabeaaa.Client
