/- The walks of the duck's functions of this seat: what each hands back. -/
import Derived.Test.YtaflnbnikabeaaaDuckF
set_option linter.unusedVariables false
set_option linter.unusedSimpArgs false
namespace Go.Proofs.Ytaflnbnikabeaaa.Duck
open Go Go.RowKit Go.Proofs.YtaflnbnikabeaaaV Go.Proofs.Ytaflnbnikabeaaa
def sel (b : Bool) (x y : Int) : Int := bif b then x else y
theorem emod_of (x y : Int) (hy : 0 < y) : x % y = if x.tmod y < 0 then x.tmod y + y else x.tmod y := by
  have h := Int.tmod_eq_emod (a := x) (b := y)
  have h1 := Int.emod_nonneg x (show y ≠ 0 by omega)
  have h2 := Int.emod_lt_of_pos x hy
  by_cases c : 0 ≤ x ∨ y ∣ x
  · rw [if_pos c] at h; rw [if_neg (by omega)]; omega
  · rw [if_neg c] at h; rw [if_pos (by omega)]; omega

theorem mod_any (x y : Int) (w : World) (hy : 0 < y ∧ y ≤ 4611686018427387904) : Calls Try.prog 12 [.int .i64 x, .int .i64 y].toArray w (Val (.int .i64 (x % y)) w) := by
  refine calls_body (n := 15) Try.func12 rfl rfl rfl (St.init _ []) ?_
  refine cd_seq ?_
  refine cd_region ?_
  refine at_pure (pv_assign rfl) rfl ?_
  refine at_nil ?_
  refine ex_go ?_
  refine cd_seq ?_
  have q := emod_of x y hy.1
  have q1 := Int.emod_nonneg x (show y ≠ 0 by omega)
  have q2 := Int.emod_lt_of_pos x hy.1
  refine cd_region ?_
  refine at_pure (pv_move rfl) rfl ?_
  refine at_pure (pv_move rfl) rfl ?_
  refine at_pure (pv_rem rfl rfl (by first | decide | omega)) rfl ?_
  refine at_pure (pv_assign rfl) rfl ?_
  refine at_nil ?_
  refine ex_go ?_
  refine cd_seq ?_
  refine cd_seq ?_
  refine cd_region ?_
  refine at_pure (pv_move rfl) rfl ?_
  refine at_pure (pv_lss rfl rfl) rfl ?_
  refine at_nil ?_
  refine ex_go ?_
  refine cd_if rfl (fun hb1 => ?_) (fun hb1 => ?_)
  · have q3 : x.tmod y < 0 := by simpa using hb1
    rw [if_pos q3] at q
    refine cd_region ?_
    refine at_pure (pv_move rfl) rfl ?_
    refine at_pure (pv_move rfl) rfl ?_
    refine at_pure (by first | exact pv_add_n rfl rfl (by unfold In64; omega) | exact pv_add rfl rfl) rfl ?_
    refine at_pure (pv_assign rfl) rfl ?_
    refine at_nil ?_
    refine ex_go ?_
    refine cd_seq ?_
    refine cd_region ?_
    refine at_pure (pv_move rfl) rfl ?_
    refine at_pure (pv_assign rfl) rfl ?_
    refine at_nil ?_
    refine ex_go ?_
    refine cd_ret ?_
    exact end_ret1 rfl rfl (fun w hs => ⟨by rw [q], hs.keep⟩)
  · have q3 : ¬ x.tmod y < 0 := by simpa using hb1
    rw [if_neg q3] at q
    refine cd_skip ?_
    refine ex_go ?_
    refine cd_seq ?_
    refine cd_region ?_
    refine at_pure (pv_move rfl) rfl ?_
    refine at_pure (pv_assign rfl) rfl ?_
    refine at_nil ?_
    refine ex_go ?_
    refine cd_ret ?_
    exact end_ret1 rfl rfl (fun w hs => ⟨by rw [q], hs.keep⟩)

theorem left_any (g : Nat) (a : Option Addr) (len cap : Nat) (p : Int) (w : World) (hb : w.heap[g]? = some (.cells ([.slice a len cap, .int .i64 p] : List Value).toArray 75 (0, 0))) : Calls Try.prog 44 [Value.pointer (some ⟨g, 0, none⟩)].toArray w (Val (.bool (decide (p < len))) w) := by
  refine calls_body (n := 13) Try.func44 rfl rfl rfl (St.init _ []) ?_
  refine cd_seq ?_
  refine cd_region ?_
  refine at_pure (pv_assign rfl) rfl ?_
  refine at_nil ?_
  refine ex_go ?_
  refine cd_seq ?_
  refine cd_draw' 10 follows ?_
  refine dr_take 0 rfl (by kernel_rfl) (by first | exact List.Sublist.refl _ | (repeat first | exact List.Sublist.slnil | exact List.nil_sublist _ | apply List.Sublist.cons_cons | apply List.Sublist.cons)) (pv_move rfl) rfl ?_
  refine dr_take 1 rfl (by kernel_rfl) (by first | exact List.Sublist.refl _ | (repeat first | exact List.Sublist.slnil | exact List.nil_sublist _ | apply List.Sublist.cons_cons | apply List.Sublist.cons)) (pv_nilCheck rfl) rfl ?_
  refine dr_take 2 rfl (by kernel_rfl) (by first | exact List.Sublist.refl _ | (repeat first | exact List.Sublist.slnil | exact List.nil_sublist _ | apply List.Sublist.cons_cons | apply List.Sublist.cons)) (by first | exact pv_field0 fa_75_1 rfl rfl | exact pv_fieldAddr fa_75_1 rfl) rfl ?_
  refine dr_take 3 rfl (by kernel_rfl) (by first | exact List.Sublist.refl _ | (repeat first | exact List.Sublist.slnil | exact List.nil_sublist _ | apply List.Sublist.cons_cons | apply List.Sublist.cons)) (pv_load ld_3 rfl (old_cell (cell_of_block (off := 1) hb rfl) (by simp))) rfl ?_
  refine dr_take 4 rfl (by kernel_rfl) (by first | exact List.Sublist.refl _ | (repeat first | exact List.Sublist.slnil | exact List.nil_sublist _ | apply List.Sublist.cons_cons | apply List.Sublist.cons)) (pv_move rfl) rfl ?_
  refine dr_take 5 rfl (by kernel_rfl) (by first | exact List.Sublist.refl _ | (repeat first | exact List.Sublist.slnil | exact List.nil_sublist _ | apply List.Sublist.cons_cons | apply List.Sublist.cons)) (pv_nilCheck rfl) rfl ?_
  refine dr_take 6 rfl (by kernel_rfl) (by first | exact List.Sublist.refl _ | (repeat first | exact List.Sublist.slnil | exact List.nil_sublist _ | apply List.Sublist.cons_cons | apply List.Sublist.cons)) (by first | exact pv_field0 fa_75_0 rfl rfl | exact pv_fieldAddr fa_75_0 rfl) rfl ?_
  refine dr_take 7 rfl (by kernel_rfl) (by first | exact List.Sublist.refl _ | (repeat first | exact List.Sublist.slnil | exact List.nil_sublist _ | apply List.Sublist.cons_cons | apply List.Sublist.cons)) (pv_load ld_36 rfl (old_cell (cell_of_block (off := 0) hb rfl) (by simp))) rfl ?_
  refine dr_take 8 rfl (by kernel_rfl) (by first | exact List.Sublist.refl _ | (repeat first | exact List.Sublist.slnil | exact List.nil_sublist _ | apply List.Sublist.cons_cons | apply List.Sublist.cons)) (pv_len Try.underlying36 rfl) rfl ?_
  refine dr_take 9 rfl (by kernel_rfl) (by first | exact List.Sublist.refl _ | (repeat first | exact List.Sublist.slnil | exact List.nil_sublist _ | apply List.Sublist.cons_cons | apply List.Sublist.cons)) (pv_lss rfl rfl) rfl ?_
  refine dr_one 10 (by kernel_rfl) rfl ?_
  refine at_pure (pv_assign rfl) rfl ?_
  refine at_nil (dr_next (fun h => by cases h) ?_)
  refine dr_done (by kernel_rfl) ?_
  refine ex_go ?_
  refine cd_ret ?_
  exact end_ret1 rfl rfl (fun w hs => Val.mk hs)

theorem next_any (g : Nat) (a : Option Addr) (len cap : Nat) (p n : Int) (w : World) (hb : w.heap[g]? = some (.cells ([.slice a len cap, .int .i64 p] : List Value).toArray 75 (0, 0))) (hI : Ints [g] w a len) (hp : 0 ≤ p ∧ p ≤ len) (hl : len ≤ 17592186044416) (hn : 0 < n ∧ n ≤ 4611686018427387904) : Calls Try.prog 45 [Value.pointer (some ⟨g, 0, none⟩), .int .i64 n].toArray w (Turned g 75 (fun x => .int .i64 x) (fun x p => 0 ≤ x ∧ x < n ∧ 0 ≤ p ∧ p ≤ len) (fun p => [.slice a len cap, .int .i64 p]) w) := by
  refine calls_body (n := 28) Try.func45 rfl rfl rfl (St.own hb) ?_
  refine cd_seq ?_
  refine cd_region ?_
  refine at_pure (pv_assign rfl) rfl ?_
  refine at_nil ?_
  refine ex_go ?_
  refine cd_seq ?_
  refine cd_seq ?_
  refine cd_region ?_
  refine at_pure (pv_move rfl) rfl ?_
  refine at_does (does_val cal44 rfl rfl rfl (fun w hs => left_any g a len cap p w (hs.box (i := 0) rfl))) rfl (fun _ => ?_)
  refine at_pure (pv_not rfl) rfl ?_
  refine at_nil ?_
  refine ex_go ?_
  refine cd_if rfl (fun hb1 => ?_) (fun hb1 => ?_)
  · skip
    refine cd_seq ?_
    refine cd_region ?_
    refine at_pure (pv_assign rfl) rfl ?_
    refine at_nil ?_
    refine ex_go ?_
    refine cd_ret ?_
    refine ex_then_ret ?_
    exact end_ret1 rfl rfl (fun w hs => by first | exact Turned.mk 0 p ⟨by omega, by omega, hp.1, hp.2⟩ rfl hs .z | exact Turned.mk (z % n) (p + 1) ⟨Int.emod_nonneg _ (by omega), Int.emod_lt_of_pos _ hn.1, by omega, by omega⟩ rfl hs .z)
  · skip
    refine cd_skip ?_
    refine ex_go ?_
    refine cd_seq ?_
    have q1 : p < (len : Int) := by simpa using hb1
    obtain ⟨A, rfl, hA0, hA1, hA⟩ := hI.resolve_left (by omega)
    obtain ⟨z, hz⟩ := hA (p + 1 - 1).toNat (by omega)
    refine cd_region ?_
    refine at_pure (pv_move rfl) rfl ?_
    refine at_pure (pv_nilCheck rfl) rfl ?_
    refine at_pure (pv_field0 fa_75_1 rfl (r := 1) rfl) rfl ?_
    refine at_pure (by exact pv_load ld_3 rfl (box_cell .z (.s .z))) rfl ?_
    refine at_pure (by first | exact pv_add_n rfl rfl (by unfold In64; omega) | exact pv_add rfl rfl) rfl ?_
    refine at_pure (pv_nilCheck rfl) rfl ?_
    refine at_pure (pv_field0 fa_75_1 rfl (r := 1) rfl) rfl ?_
    refine at_turns (by exact turns_store sz_3 rfl rfl (.one rfl) rfl rfl .z (.skip (.rep .done)) .z) ?_
    refine at_nil ?_
    refine ex_go ?_
    refine cd_seq ?_
    refine cd_draw' 13 follows ?_
    refine dr_take 0 rfl (by kernel_rfl) (by first | exact List.Sublist.refl _ | (repeat first | exact List.Sublist.slnil | exact List.nil_sublist _ | apply List.Sublist.cons_cons | apply List.Sublist.cons)) (pv_move rfl) rfl ?_
    refine dr_take 1 rfl (by kernel_rfl) (by first | exact List.Sublist.refl _ | (repeat first | exact List.Sublist.slnil | exact List.nil_sublist _ | apply List.Sublist.cons_cons | apply List.Sublist.cons)) (pv_nilCheck rfl) rfl ?_
    refine dr_take 2 rfl (by kernel_rfl) (by first | exact List.Sublist.refl _ | (repeat first | exact List.Sublist.slnil | exact List.nil_sublist _ | apply List.Sublist.cons_cons | apply List.Sublist.cons)) (pv_field0 fa_75_0 rfl (r := 0) rfl) rfl ?_
    refine dr_take 3 rfl (by kernel_rfl) (by first | exact List.Sublist.refl _ | (repeat first | exact List.Sublist.slnil | exact List.nil_sublist _ | apply List.Sublist.cons_cons | apply List.Sublist.cons)) (by exact pv_load ld_36 rfl (box_cell .z .z)) rfl ?_
    refine dr_take 4 rfl (by kernel_rfl) (by first | exact List.Sublist.refl _ | (repeat first | exact List.Sublist.slnil | exact List.nil_sublist _ | apply List.Sublist.cons_cons | apply List.Sublist.cons)) (pv_move rfl) rfl ?_
    refine dr_take 5 rfl (by kernel_rfl) (by first | exact List.Sublist.refl _ | (repeat first | exact List.Sublist.slnil | exact List.nil_sublist _ | apply List.Sublist.cons_cons | apply List.Sublist.cons)) (pv_nilCheck rfl) rfl ?_
    refine dr_take 6 rfl (by kernel_rfl) (by first | exact List.Sublist.refl _ | (repeat first | exact List.Sublist.slnil | exact List.nil_sublist _ | apply List.Sublist.cons_cons | apply List.Sublist.cons)) (pv_field0 fa_75_1 rfl (r := 1) rfl) rfl ?_
    refine dr_take 7 rfl (by kernel_rfl) (by first | exact List.Sublist.refl _ | (repeat first | exact List.Sublist.slnil | exact List.nil_sublist _ | apply List.Sublist.cons_cons | apply List.Sublist.cons)) (by exact pv_load ld_3 rfl (box_cell .z (.s .z))) rfl ?_
    refine dr_take 8 rfl (by kernel_rfl) (by first | exact List.Sublist.refl _ | (repeat first | exact List.Sublist.slnil | exact List.nil_sublist _ | apply List.Sublist.cons_cons | apply List.Sublist.cons)) (by first | exact pv_sub_n rfl rfl (by unfold In64; omega) | exact pv_sub rfl rfl) rfl ?_
    refine dr_take 9 rfl (by kernel_rfl) (by first | exact List.Sublist.refl _ | (repeat first | exact List.Sublist.slnil | exact List.nil_sublist _ | apply List.Sublist.cons_cons | apply List.Sublist.cons)) (pv_index Try.underlying36 cz_3 rfl rfl (by omega)) rfl ?_
    refine dr_take 10 rfl (by kernel_rfl) (by first | exact List.Sublist.refl _ | (repeat first | exact List.Sublist.slnil | exact List.nil_sublist _ | apply List.Sublist.cons_cons | apply List.Sublist.cons)) (pv_load ld_3 rfl (old_cell (by rw [Nat.mul_one]; exact hz) (by rw [add_block]; exact hA1))) rfl ?_
    refine dr_take 11 rfl (by kernel_rfl) (by first | exact List.Sublist.refl _ | (repeat first | exact List.Sublist.slnil | exact List.nil_sublist _ | apply List.Sublist.cons_cons | apply List.Sublist.cons)) (pv_move rfl) rfl ?_
    refine dr_one 12 (by kernel_rfl) rfl ?_
    refine at_does (does_val cal12 rfl rfl rfl (fun w hs => mod_any z n w hn)) rfl (fun _ => ?_)
    refine at_nil (dr_next (fun _ => (by first | exact List.Sublist.refl _ | (repeat first | exact List.Sublist.slnil | exact List.nil_sublist _ | apply List.Sublist.cons_cons | apply List.Sublist.cons))) ?_)
    refine dr_one 13 (by kernel_rfl) rfl ?_
    refine at_pure (pv_assign rfl) rfl ?_
    refine at_nil (dr_next (fun h => by cases h) ?_)
    refine dr_done (by kernel_rfl) ?_
    refine ex_go ?_
    refine cd_ret ?_
    exact end_ret1 rfl rfl (fun w hs => by first | exact Turned.mk 0 p ⟨by omega, by omega, hp.1, hp.2⟩ rfl hs .z | exact Turned.mk (z % n) (p + 1) ⟨Int.emod_nonneg _ (by omega), Int.emod_lt_of_pos _ hn.1, by omega, by omega⟩ rfl hs .z)

theorem range_any (g : Nat) (a : Option Addr) (len cap : Nat) (p lo hi : Int) (w : World) (hb : w.heap[g]? = some (.cells ([.slice a len cap, .int .i64 p] : List Value).toArray 75 (0, 0))) (hI : Ints [g] w a len) (hp : 0 ≤ p ∧ p ≤ len) (hl : len ≤ 17592186044416) (hn : 0 ≤ lo ∧ lo ≤ hi ∧ hi ≤ 1152921504606846976) : Calls Try.prog 52 [Value.pointer (some ⟨g, 0, none⟩), .int .i64 lo, .int .i64 hi].toArray w (Turned g 75 (fun x => .int .i64 x) (fun x p => lo ≤ x ∧ x ≤ hi ∧ 0 ≤ p ∧ p ≤ len) (fun p => [.slice a len cap, .int .i64 p]) w) := by
  refine calls_body (n := 15) Try.func52 rfl rfl rfl (St.own hb) ?_
  refine cd_seq ?_
  refine cd_region ?_
  refine at_pure (pv_assign rfl) rfl ?_
  refine at_nil ?_
  refine ex_go ?_
  refine cd_seq ?_
  refine cd_region ?_
  refine at_pure (pv_move rfl) rfl ?_
  refine at_pure (pv_move rfl) rfl ?_
  refine at_pure (pv_move rfl) rfl ?_
  refine at_pure (pv_move rfl) rfl ?_
  refine at_pure (by first | exact pv_sub_n rfl rfl (by unfold In64; omega) | exact pv_sub rfl rfl) rfl ?_
  refine at_pure (by first | exact pv_add_n rfl rfl (by unfold In64; omega) | exact pv_add rfl rfl) rfl ?_
  refine at_hand (does_hand cal45 rfl rfl rfl .z (fun w hs => next_any g a len cap p (hi - lo + 1) w (hs.box (i := 0) rfl) (hI.keep hs.keep) hp hl (by omega)) (fun _ => .z)) rfl (fun x p' hx => ?_)
  obtain ⟨hx1, hx2, hx3, hx4⟩ := hx
  refine at_pure (by first | exact pv_add_n rfl rfl (by unfold In64; omega) | exact pv_add rfl rfl) rfl ?_
  refine at_pure (pv_assign rfl) rfl ?_
  refine at_nil ?_
  refine ex_go ?_
  refine cd_ret ?_
  exact end_ret1 rfl rfl (fun w hs => Turned.mk (lo + x) p' ⟨by omega, by omega, hx3, hx4⟩ rfl hs .z)

theorem new_any (a : Option Addr) (len cap : Nat) (w : World) : Calls Try.prog 43 [.slice a len cap].toArray w (Gives (fun g : Nat => Value.pointer (some ⟨g, 0, none⟩)) (fun g => [Box g [.slice a len cap, .int .i64 0] 75]) w) := by
  refine calls_body (n := 6) Try.func43 rfl rfl rfl (St.init _ []) ?_
  refine cd_seq ?_
  refine cd_region ?_
  refine at_pure (pv_assign rfl) rfl ?_
  refine at_nil ?_
  refine ex_go ?_
  refine cd_seq ?_
  refine cd_region ?_
  refine at_pure (pv_move rfl) rfl ?_
  refine at_pure (pv_build rfl (bu_75_0 _ _ _)) rfl ?_
  refine at_does (does_box rfl .agg (fun _ => .nil)) rfl (fun g1 => ?_)
  refine at_pure (pv_assign rfl) rfl ?_
  refine at_nil ?_
  refine ex_go ?_
  refine cd_ret ?_
  exact end_ret1 rfl rfl (fun w hs => Gives.mk _ rfl rfl hs)

def inB (x lo hi : Int) : Bool := decide (lo ≤ x) && decide (x ≤ hi)
def validE (g h f r o : Int) : Bool := inB g 0 262144 && inB o 0 4096 && inB h 0 o && inB f 1 262144 && inB r 1 262144
def nextG (g h f r o want : Int) : Int := if want < g then (if g - f > want then g - f else want) else if want > g ∧ h > 0 then g else if want > g then (if g + r < want then g + r else want) else g
def nextH (g h f r o want : Int) : Int := if want < g then o else if want > g ∧ h > 0 then h - 1 else h
theorem validE_iff (g h f r o : Int) : validE g h f r o = true ↔ 0 ≤ g ∧ g ≤ 262144 ∧ 0 ≤ o ∧ o ≤ 4096 ∧ 0 ≤ h ∧ h ≤ o ∧ 1 ≤ f ∧ f ≤ 262144 ∧ 1 ≤ r ∧ r ≤ 262144 := by
  simp [validE, inB]; omega
theorem next_valid (g h f r o want : Int) (hv : validE g h f r o = true) (hw : 0 ≤ want ∧ want ≤ 262144) : validE (nextG g h f r o want) (nextH g h f r o want) f r o = true := by
  rw [validE_iff] at *
  unfold nextG nextH
  omega

theorem within_any (x lo hi : Int) (w : World) : Calls Try.prog 53 [.int .i64 x, .int .i64 lo, .int .i64 hi].toArray w (Val (.bool (inB x lo hi)) w) := by
  refine calls_body (n := 15) Try.func53 rfl rfl rfl (St.init _ []) ?_
  refine cd_seq ?_
  refine cd_region ?_
  refine at_pure (pv_assign rfl) rfl ?_
  refine at_nil ?_
  refine ex_go ?_
  refine cd_seq ?_
  refine cd_region ?_
  refine at_pure (pv_move rfl) rfl ?_
  refine at_pure (pv_move rfl) rfl ?_
  refine at_pure (pv_geq rfl rfl) rfl ?_
  refine at_pure (pv_move rfl) rfl ?_
  refine at_split 10 rfl (fun hb1 => ?_) (fun hb1 => ?_)
  · skip
    refine at_pure_g rfl rfl hb1 (pv_move rfl) rfl ?_
    refine at_pure_g rfl rfl hb1 (pv_move rfl) rfl ?_
    refine at_pure_g rfl rfl hb1 (pv_leq rfl rfl) rfl ?_
    refine at_pure (pv_pick_t rfl hb1 rfl) rfl ?_
    refine at_pure (pv_assign rfl) rfl ?_
    refine at_nil ?_
    refine ex_go ?_
    refine cd_ret ?_
    exact end_ret1 rfl rfl (fun w hs => ⟨by simp [inB, *], hs.keep⟩)
  · skip
    refine at_skip rfl rfl hb1 rfl ?_
    refine at_skip rfl rfl hb1 rfl ?_
    refine at_skip rfl rfl hb1 rfl ?_
    refine at_pure (pv_pick_f rfl hb1 rfl) rfl ?_
    refine at_pure (pv_assign rfl) rfl ?_
    refine at_nil ?_
    refine ex_go ?_
    refine cd_ret ?_
    exact end_ret1 rfl rfl (fun w hs => ⟨by simp [inB, *], hs.keep⟩)

theorem valid_any (g h f r o : Int) (w : World) : Calls Try.prog 21 [.agg #[.int .i64 g, .int .i64 h], .agg #[.int .i64 f, .int .i64 r, .int .i64 o]].toArray w (Val (.bool (validE g h f r o)) w) := by
  refine calls_body (n := 30) Try.func21 rfl rfl rfl (St.init _ []) ?_
  refine cd_seq ?_
  refine cd_region ?_
  refine at_does (does_box rfl .agg (fun _ => .nil)) rfl (fun g1 => ?_)
  refine at_does (does_box rfl .agg (fun _ => (.cons .nil))) rfl (fun g2 => ?_)
  refine at_pure (pv_assign rfl) rfl ?_
  refine at_nil ?_
  refine ex_go ?_
  refine cd_seq ?_
  refine cd_region ?_
  refine at_pure (pv_field0 fa_38_0 rfl (r := 0) rfl) rfl ?_
  refine at_pure (by exact pv_load ld_3 rfl (box_cell .z .z)) rfl ?_
  refine at_does (does_val cal53 rfl rfl rfl (fun w hs => within_any _ _ _ w)) rfl (fun _ => ?_)
  refine at_pure (pv_move rfl) rfl ?_
  refine at_split 8 rfl (fun hb1 => ?_) (fun hb1 => ?_)
  · skip
    refine at_pure_g rfl rfl hb1 (pv_field0 fa_40_2 rfl (r := 2) rfl) rfl ?_
    refine at_pure_g rfl rfl hb1 (by exact pv_load ld_3 rfl (box_cell (.s .z) (.s (.s .z)))) rfl ?_
    refine at_does_g rfl rfl hb1 (does_val cal53 rfl rfl rfl (fun w hs => within_any _ _ _ w)) rfl (fun _ => ?_)
    refine at_pure (pv_pick_t rfl hb1 rfl) rfl ?_
    refine at_pure (pv_move rfl) rfl ?_
    refine at_split 13 rfl (fun hb2 => ?_) (fun hb2 => ?_)
    · skip
      refine at_pure_g rfl rfl hb2 (pv_field0 fa_38_1 rfl (r := 1) rfl) rfl ?_
      refine at_pure_g rfl rfl hb2 (by exact pv_load ld_3 rfl (box_cell .z (.s .z))) rfl ?_
      refine at_pure_g rfl rfl hb2 (pv_field0 fa_40_2 rfl (r := 2) rfl) rfl ?_
      refine at_pure_g rfl rfl hb2 (by exact pv_load ld_3 rfl (box_cell (.s .z) (.s (.s .z)))) rfl ?_
      refine at_does_g rfl rfl hb2 (does_val cal53 rfl rfl rfl (fun w hs => within_any _ _ _ w)) rfl (fun _ => ?_)
      refine at_pure (pv_pick_t rfl hb2 rfl) rfl ?_
      refine at_pure (pv_move rfl) rfl ?_
      refine at_split 20 rfl (fun hb3 => ?_) (fun hb3 => ?_)
      · skip
        refine at_pure_g rfl rfl hb3 (pv_field0 fa_40_0 rfl (r := 0) rfl) rfl ?_
        refine at_pure_g rfl rfl hb3 (by exact pv_load ld_3 rfl (box_cell (.s .z) .z)) rfl ?_
        refine at_does_g rfl rfl hb3 (does_val cal53 rfl rfl rfl (fun w hs => within_any _ _ _ w)) rfl (fun _ => ?_)
        refine at_pure (pv_pick_t rfl hb3 rfl) rfl ?_
        refine at_pure (pv_move rfl) rfl ?_
        refine at_split 25 rfl (fun hb4 => ?_) (fun hb4 => ?_)
        · skip
          refine at_pure_g rfl rfl hb4 (pv_field0 fa_40_1 rfl (r := 1) rfl) rfl ?_
          refine at_pure_g rfl rfl hb4 (by exact pv_load ld_3 rfl (box_cell (.s .z) (.s .z))) rfl ?_
          refine at_does_g rfl rfl hb4 (does_val cal53 rfl rfl rfl (fun w hs => within_any _ _ _ w)) rfl (fun _ => ?_)
          refine at_pure (pv_pick_t rfl hb4 rfl) rfl ?_
          refine at_pure (pv_assign rfl) rfl ?_
          refine at_nil ?_
          refine ex_go ?_
          refine cd_ret ?_
          exact end_ret1 rfl rfl (fun w hs => ⟨by clear hs; refine congrArg (fun b => Ending.returned (.bool b)) ?_; first | (simp_all [validE, inB]; done) | (simp_all [validE, inB]; omega), hs.keep⟩)
        · skip
          refine at_skip rfl rfl hb4 rfl ?_
          refine at_skip rfl rfl hb4 rfl ?_
          refine at_skip rfl rfl hb4 rfl ?_
          refine at_pure (pv_pick_f rfl hb4 rfl) rfl ?_
          refine at_pure (pv_assign rfl) rfl ?_
          refine at_nil ?_
          refine ex_go ?_
          refine cd_ret ?_
          exact end_ret1 rfl rfl (fun w hs => ⟨by clear hs; refine congrArg (fun b => Ending.returned (.bool b)) ?_; first | (simp_all [validE, inB]; done) | (simp_all [validE, inB]; omega), hs.keep⟩)
      · skip
        refine at_skip rfl rfl hb3 rfl ?_
        refine at_skip rfl rfl hb3 rfl ?_
        refine at_skip rfl rfl hb3 rfl ?_
        refine at_pure (pv_pick_f rfl hb3 rfl) rfl ?_
        refine at_pure (pv_move rfl) rfl ?_
        refine at_skip rfl rfl rfl rfl ?_
        refine at_skip rfl rfl rfl rfl ?_
        refine at_skip rfl rfl rfl rfl ?_
        refine at_pure (pv_pick_f rfl rfl rfl) rfl ?_
        refine at_pure (pv_assign rfl) rfl ?_
        refine at_nil ?_
        refine ex_go ?_
        refine cd_ret ?_
        exact end_ret1 rfl rfl (fun w hs => ⟨by clear hs; refine congrArg (fun b => Ending.returned (.bool b)) ?_; first | (simp_all [validE, inB]; done) | (simp_all [validE, inB]; omega), hs.keep⟩)
    · skip
      refine at_skip rfl rfl hb2 rfl ?_
      refine at_skip rfl rfl hb2 rfl ?_
      refine at_skip rfl rfl hb2 rfl ?_
      refine at_skip rfl rfl hb2 rfl ?_
      refine at_skip rfl rfl hb2 rfl ?_
      refine at_pure (pv_pick_f rfl hb2 rfl) rfl ?_
      refine at_pure (pv_move rfl) rfl ?_
      refine at_skip rfl rfl rfl rfl ?_
      refine at_skip rfl rfl rfl rfl ?_
      refine at_skip rfl rfl rfl rfl ?_
      refine at_pure (pv_pick_f rfl rfl rfl) rfl ?_
      refine at_pure (pv_move rfl) rfl ?_
      refine at_skip rfl rfl rfl rfl ?_
      refine at_skip rfl rfl rfl rfl ?_
      refine at_skip rfl rfl rfl rfl ?_
      refine at_pure (pv_pick_f rfl rfl rfl) rfl ?_
      refine at_pure (pv_assign rfl) rfl ?_
      refine at_nil ?_
      refine ex_go ?_
      refine cd_ret ?_
      exact end_ret1 rfl rfl (fun w hs => ⟨by clear hs; refine congrArg (fun b => Ending.returned (.bool b)) ?_; first | (simp_all [validE, inB]; done) | (simp_all [validE, inB]; omega), hs.keep⟩)
  · skip
    refine at_skip rfl rfl hb1 rfl ?_
    refine at_skip rfl rfl hb1 rfl ?_
    refine at_skip rfl rfl hb1 rfl ?_
    refine at_pure (pv_pick_f rfl hb1 rfl) rfl ?_
    refine at_pure (pv_move rfl) rfl ?_
    refine at_skip rfl rfl rfl rfl ?_
    refine at_skip rfl rfl rfl rfl ?_
    refine at_skip rfl rfl rfl rfl ?_
    refine at_skip rfl rfl rfl rfl ?_
    refine at_skip rfl rfl rfl rfl ?_
    refine at_pure (pv_pick_f rfl rfl rfl) rfl ?_
    refine at_pure (pv_move rfl) rfl ?_
    refine at_skip rfl rfl rfl rfl ?_
    refine at_skip rfl rfl rfl rfl ?_
    refine at_skip rfl rfl rfl rfl ?_
    refine at_pure (pv_pick_f rfl rfl rfl) rfl ?_
    refine at_pure (pv_move rfl) rfl ?_
    refine at_skip rfl rfl rfl rfl ?_
    refine at_skip rfl rfl rfl rfl ?_
    refine at_skip rfl rfl rfl rfl ?_
    refine at_pure (pv_pick_f rfl rfl rfl) rfl ?_
    refine at_pure (pv_assign rfl) rfl ?_
    refine at_nil ?_
    refine ex_go ?_
    refine cd_ret ?_
    exact end_ret1 rfl rfl (fun w hs => ⟨by clear hs; refine congrArg (fun b => Ending.returned (.bool b)) ?_; first | (simp_all [validE, inB]; done) | (simp_all [validE, inB]; omega), hs.keep⟩)

theorem valid_ref (g h f r o : Int) (w : World) : Calls Try.prog 22 [.agg #[.int .i64 g, .int .i64 h], .agg #[.int .i64 f, .int .i64 r, .int .i64 o]].toArray w (Val (.bool (validE g h f r o)) w) := by
  refine calls_body (n := 55) Try.func22 rfl rfl rfl (St.init _ []) ?_
  refine cd_seq ?_
  refine cd_region ?_
  refine at_does (does_box rfl .agg (fun _ => .nil)) rfl (fun g1 => ?_)
  refine at_does (does_box rfl .agg (fun _ => (.cons .nil))) rfl (fun g2 => ?_)
  refine at_pure (pv_assign rfl) rfl ?_
  refine at_nil ?_
  refine ex_go ?_
  refine cd_seq ?_
  refine cd_region ?_
  refine at_pure (pv_field0 fa_38_0 rfl (r := 0) rfl) rfl ?_
  refine at_pure (by exact pv_load ld_3 rfl (box_cell .z .z)) rfl ?_
  refine at_pure (pv_geq rfl rfl) rfl ?_
  refine at_pure (pv_move rfl) rfl ?_
  refine at_split 8 rfl (fun hb1 => ?_) (fun hb1 => ?_)
  · skip
    refine at_pure_g rfl rfl hb1 (pv_field0 fa_38_0 rfl (r := 0) rfl) rfl ?_
    refine at_pure_g rfl rfl hb1 (by exact pv_load ld_3 rfl (box_cell .z .z)) rfl ?_
    refine at_pure_g rfl rfl hb1 (pv_leq rfl rfl) rfl ?_
    refine at_pure (pv_pick_t rfl hb1 rfl) rfl ?_
    refine at_pure (pv_move rfl) rfl ?_
    refine at_split 13 rfl (fun hb2 => ?_) (fun hb2 => ?_)
    · skip
      refine at_pure_g rfl rfl hb2 (pv_field0 fa_40_2 rfl (r := 2) rfl) rfl ?_
      refine at_pure_g rfl rfl hb2 (by exact pv_load ld_3 rfl (box_cell (.s .z) (.s (.s .z)))) rfl ?_
      refine at_pure_g rfl rfl hb2 (pv_geq rfl rfl) rfl ?_
      refine at_pure (pv_pick_t rfl hb2 rfl) rfl ?_
      refine at_pure (pv_move rfl) rfl ?_
      refine at_split 18 rfl (fun hb3 => ?_) (fun hb3 => ?_)
      · skip
        refine at_pure_g rfl rfl hb3 (pv_field0 fa_40_2 rfl (r := 2) rfl) rfl ?_
        refine at_pure_g rfl rfl hb3 (by exact pv_load ld_3 rfl (box_cell (.s .z) (.s (.s .z)))) rfl ?_
        refine at_pure_g rfl rfl hb3 (pv_leq rfl rfl) rfl ?_
        refine at_pure (pv_pick_t rfl hb3 rfl) rfl ?_
        refine at_pure (pv_move rfl) rfl ?_
        refine at_split 23 rfl (fun hb4 => ?_) (fun hb4 => ?_)
        · skip
          refine at_pure_g rfl rfl hb4 (pv_field0 fa_38_1 rfl (r := 1) rfl) rfl ?_
          refine at_pure_g rfl rfl hb4 (by exact pv_load ld_3 rfl (box_cell .z (.s .z))) rfl ?_
          refine at_pure_g rfl rfl hb4 (pv_geq rfl rfl) rfl ?_
          refine at_pure (pv_pick_t rfl hb4 rfl) rfl ?_
          refine at_pure (pv_move rfl) rfl ?_
          refine at_split 28 rfl (fun hb5 => ?_) (fun hb5 => ?_)
          · skip
            refine at_pure_g rfl rfl hb5 (pv_field0 fa_38_1 rfl (r := 1) rfl) rfl ?_
            refine at_pure_g rfl rfl hb5 (by exact pv_load ld_3 rfl (box_cell .z (.s .z))) rfl ?_
            refine at_pure_g rfl rfl hb5 (pv_field0 fa_40_2 rfl (r := 2) rfl) rfl ?_
            refine at_pure_g rfl rfl hb5 (by exact pv_load ld_3 rfl (box_cell (.s .z) (.s (.s .z)))) rfl ?_
            refine at_pure_g rfl rfl hb5 (pv_leq rfl rfl) rfl ?_
            refine at_pure (pv_pick_t rfl hb5 rfl) rfl ?_
            refine at_pure (pv_move rfl) rfl ?_
            refine at_split 35 rfl (fun hb6 => ?_) (fun hb6 => ?_)
            · skip
              refine at_pure_g rfl rfl hb6 (pv_field0 fa_40_0 rfl (r := 0) rfl) rfl ?_
              refine at_pure_g rfl rfl hb6 (by exact pv_load ld_3 rfl (box_cell (.s .z) .z)) rfl ?_
              refine at_pure_g rfl rfl hb6 (pv_geq rfl rfl) rfl ?_
              refine at_pure (pv_pick_t rfl hb6 rfl) rfl ?_
              refine at_pure (pv_move rfl) rfl ?_
              refine at_split 40 rfl (fun hb7 => ?_) (fun hb7 => ?_)
              · skip
                refine at_pure_g rfl rfl hb7 (pv_field0 fa_40_0 rfl (r := 0) rfl) rfl ?_
                refine at_pure_g rfl rfl hb7 (by exact pv_load ld_3 rfl (box_cell (.s .z) .z)) rfl ?_
                refine at_pure_g rfl rfl hb7 (pv_leq rfl rfl) rfl ?_
                refine at_pure (pv_pick_t rfl hb7 rfl) rfl ?_
                refine at_pure (pv_move rfl) rfl ?_
                refine at_split 45 rfl (fun hb8 => ?_) (fun hb8 => ?_)
                · skip
                  refine at_pure_g rfl rfl hb8 (pv_field0 fa_40_1 rfl (r := 1) rfl) rfl ?_
                  refine at_pure_g rfl rfl hb8 (by exact pv_load ld_3 rfl (box_cell (.s .z) (.s .z))) rfl ?_
                  refine at_pure_g rfl rfl hb8 (pv_geq rfl rfl) rfl ?_
                  refine at_pure (pv_pick_t rfl hb8 rfl) rfl ?_
                  refine at_pure (pv_move rfl) rfl ?_
                  refine at_split 50 rfl (fun hb9 => ?_) (fun hb9 => ?_)
                  · skip
                    refine at_pure_g rfl rfl hb9 (pv_field0 fa_40_1 rfl (r := 1) rfl) rfl ?_
                    refine at_pure_g rfl rfl hb9 (by exact pv_load ld_3 rfl (box_cell (.s .z) (.s .z))) rfl ?_
                    refine at_pure_g rfl rfl hb9 (pv_leq rfl rfl) rfl ?_
                    refine at_pure (pv_pick_t rfl hb9 rfl) rfl ?_
                    refine at_pure (pv_assign rfl) rfl ?_
                    refine at_nil ?_
                    refine ex_go ?_
                    refine cd_ret ?_
                    exact end_ret1 rfl rfl (fun w hs => ⟨by clear hs; refine congrArg (fun b => Ending.returned (.bool b)) ?_; first | (simp_all [validE, inB]; done) | (simp_all [validE, inB]; omega), hs.keep⟩)
                  · skip
                    refine at_skip rfl rfl hb9 rfl ?_
                    refine at_skip rfl rfl hb9 rfl ?_
                    refine at_skip rfl rfl hb9 rfl ?_
                    refine at_pure (pv_pick_f rfl hb9 rfl) rfl ?_
                    refine at_pure (pv_assign rfl) rfl ?_
                    refine at_nil ?_
                    refine ex_go ?_
                    refine cd_ret ?_
                    exact end_ret1 rfl rfl (fun w hs => ⟨by clear hs; refine congrArg (fun b => Ending.returned (.bool b)) ?_; first | (simp_all [validE, inB]; done) | (simp_all [validE, inB]; omega), hs.keep⟩)
                · skip
                  refine at_skip rfl rfl hb8 rfl ?_
                  refine at_skip rfl rfl hb8 rfl ?_
                  refine at_skip rfl rfl hb8 rfl ?_
                  refine at_pure (pv_pick_f rfl hb8 rfl) rfl ?_
                  refine at_pure (pv_move rfl) rfl ?_
                  refine at_skip rfl rfl rfl rfl ?_
                  refine at_skip rfl rfl rfl rfl ?_
                  refine at_skip rfl rfl rfl rfl ?_
                  refine at_pure (pv_pick_f rfl rfl rfl) rfl ?_
                  refine at_pure (pv_assign rfl) rfl ?_
                  refine at_nil ?_
                  refine ex_go ?_
                  refine cd_ret ?_
                  exact end_ret1 rfl rfl (fun w hs => ⟨by clear hs; refine congrArg (fun b => Ending.returned (.bool b)) ?_; first | (simp_all [validE, inB]; done) | (simp_all [validE, inB]; omega), hs.keep⟩)
              · skip
                refine at_skip rfl rfl hb7 rfl ?_
                refine at_skip rfl rfl hb7 rfl ?_
                refine at_skip rfl rfl hb7 rfl ?_
                refine at_pure (pv_pick_f rfl hb7 rfl) rfl ?_
                refine at_pure (pv_move rfl) rfl ?_
                refine at_skip rfl rfl rfl rfl ?_
                refine at_skip rfl rfl rfl rfl ?_
                refine at_skip rfl rfl rfl rfl ?_
                refine at_pure (pv_pick_f rfl rfl rfl) rfl ?_
                refine at_pure (pv_move rfl) rfl ?_
                refine at_skip rfl rfl rfl rfl ?_
                refine at_skip rfl rfl rfl rfl ?_
                refine at_skip rfl rfl rfl rfl ?_
                refine at_pure (pv_pick_f rfl rfl rfl) rfl ?_
                refine at_pure (pv_assign rfl) rfl ?_
                refine at_nil ?_
                refine ex_go ?_
                refine cd_ret ?_
                exact end_ret1 rfl rfl (fun w hs => ⟨by clear hs; refine congrArg (fun b => Ending.returned (.bool b)) ?_; first | (simp_all [validE, inB]; done) | (simp_all [validE, inB]; omega), hs.keep⟩)
            · skip
              refine at_skip rfl rfl hb6 rfl ?_
              refine at_skip rfl rfl hb6 rfl ?_
              refine at_skip rfl rfl hb6 rfl ?_
              refine at_pure (pv_pick_f rfl hb6 rfl) rfl ?_
              refine at_pure (pv_move rfl) rfl ?_
              refine at_skip rfl rfl rfl rfl ?_
              refine at_skip rfl rfl rfl rfl ?_
              refine at_skip rfl rfl rfl rfl ?_
              refine at_pure (pv_pick_f rfl rfl rfl) rfl ?_
              refine at_pure (pv_move rfl) rfl ?_
              refine at_skip rfl rfl rfl rfl ?_
              refine at_skip rfl rfl rfl rfl ?_
              refine at_skip rfl rfl rfl rfl ?_
              refine at_pure (pv_pick_f rfl rfl rfl) rfl ?_
              refine at_pure (pv_move rfl) rfl ?_
              refine at_skip rfl rfl rfl rfl ?_
              refine at_skip rfl rfl rfl rfl ?_
              refine at_skip rfl rfl rfl rfl ?_
              refine at_pure (pv_pick_f rfl rfl rfl) rfl ?_
              refine at_pure (pv_assign rfl) rfl ?_
              refine at_nil ?_
              refine ex_go ?_
              refine cd_ret ?_
              exact end_ret1 rfl rfl (fun w hs => ⟨by clear hs; refine congrArg (fun b => Ending.returned (.bool b)) ?_; first | (simp_all [validE, inB]; done) | (simp_all [validE, inB]; omega), hs.keep⟩)
          · skip
            refine at_skip rfl rfl hb5 rfl ?_
            refine at_skip rfl rfl hb5 rfl ?_
            refine at_skip rfl rfl hb5 rfl ?_
            refine at_skip rfl rfl hb5 rfl ?_
            refine at_skip rfl rfl hb5 rfl ?_
            refine at_pure (pv_pick_f rfl hb5 rfl) rfl ?_
            refine at_pure (pv_move rfl) rfl ?_
            refine at_skip rfl rfl rfl rfl ?_
            refine at_skip rfl rfl rfl rfl ?_
            refine at_skip rfl rfl rfl rfl ?_
            refine at_pure (pv_pick_f rfl rfl rfl) rfl ?_
            refine at_pure (pv_move rfl) rfl ?_
            refine at_skip rfl rfl rfl rfl ?_
            refine at_skip rfl rfl rfl rfl ?_
            refine at_skip rfl rfl rfl rfl ?_
            refine at_pure (pv_pick_f rfl rfl rfl) rfl ?_
            refine at_pure (pv_move rfl) rfl ?_
            refine at_skip rfl rfl rfl rfl ?_
            refine at_skip rfl rfl rfl rfl ?_
            refine at_skip rfl rfl rfl rfl ?_
            refine at_pure (pv_pick_f rfl rfl rfl) rfl ?_
            refine at_pure (pv_move rfl) rfl ?_
            refine at_skip rfl rfl rfl rfl ?_
            refine at_skip rfl rfl rfl rfl ?_
            refine at_skip rfl rfl rfl rfl ?_
            refine at_pure (pv_pick_f rfl rfl rfl) rfl ?_
            refine at_pure (pv_assign rfl) rfl ?_
            refine at_nil ?_
            refine ex_go ?_
            refine cd_ret ?_
            exact end_ret1 rfl rfl (fun w hs => ⟨by clear hs; refine congrArg (fun b => Ending.returned (.bool b)) ?_; first | (simp_all [validE, inB]; done) | (simp_all [validE, inB]; omega), hs.keep⟩)
        · skip
          refine at_skip rfl rfl hb4 rfl ?_
          refine at_skip rfl rfl hb4 rfl ?_
          refine at_skip rfl rfl hb4 rfl ?_
          refine at_pure (pv_pick_f rfl hb4 rfl) rfl ?_
          refine at_pure (pv_move rfl) rfl ?_
          refine at_skip rfl rfl rfl rfl ?_
          refine at_skip rfl rfl rfl rfl ?_
          refine at_skip rfl rfl rfl rfl ?_
          refine at_skip rfl rfl rfl rfl ?_
          refine at_skip rfl rfl rfl rfl ?_
          refine at_pure (pv_pick_f rfl rfl rfl) rfl ?_
          refine at_pure (pv_move rfl) rfl ?_
          refine at_skip rfl rfl rfl rfl ?_
          refine at_skip rfl rfl rfl rfl ?_
          refine at_skip rfl rfl rfl rfl ?_
          refine at_pure (pv_pick_f rfl rfl rfl) rfl ?_
          refine at_pure (pv_move rfl) rfl ?_
          refine at_skip rfl rfl rfl rfl ?_
          refine at_skip rfl rfl rfl rfl ?_
          refine at_skip rfl rfl rfl rfl ?_
          refine at_pure (pv_pick_f rfl rfl rfl) rfl ?_
          refine at_pure (pv_move rfl) rfl ?_
          refine at_skip rfl rfl rfl rfl ?_
          refine at_skip rfl rfl rfl rfl ?_
          refine at_skip rfl rfl rfl rfl ?_
          refine at_pure (pv_pick_f rfl rfl rfl) rfl ?_
          refine at_pure (pv_move rfl) rfl ?_
          refine at_skip rfl rfl rfl rfl ?_
          refine at_skip rfl rfl rfl rfl ?_
          refine at_skip rfl rfl rfl rfl ?_
          refine at_pure (pv_pick_f rfl rfl rfl) rfl ?_
          refine at_pure (pv_assign rfl) rfl ?_
          refine at_nil ?_
          refine ex_go ?_
          refine cd_ret ?_
          exact end_ret1 rfl rfl (fun w hs => ⟨by clear hs; refine congrArg (fun b => Ending.returned (.bool b)) ?_; first | (simp_all [validE, inB]; done) | (simp_all [validE, inB]; omega), hs.keep⟩)
      · skip
        refine at_skip rfl rfl hb3 rfl ?_
        refine at_skip rfl rfl hb3 rfl ?_
        refine at_skip rfl rfl hb3 rfl ?_
        refine at_pure (pv_pick_f rfl hb3 rfl) rfl ?_
        refine at_pure (pv_move rfl) rfl ?_
        refine at_skip rfl rfl rfl rfl ?_
        refine at_skip rfl rfl rfl rfl ?_
        refine at_skip rfl rfl rfl rfl ?_
        refine at_pure (pv_pick_f rfl rfl rfl) rfl ?_
        refine at_pure (pv_move rfl) rfl ?_
        refine at_skip rfl rfl rfl rfl ?_
        refine at_skip rfl rfl rfl rfl ?_
        refine at_skip rfl rfl rfl rfl ?_
        refine at_skip rfl rfl rfl rfl ?_
        refine at_skip rfl rfl rfl rfl ?_
        refine at_pure (pv_pick_f rfl rfl rfl) rfl ?_
        refine at_pure (pv_move rfl) rfl ?_
        refine at_skip rfl rfl rfl rfl ?_
        refine at_skip rfl rfl rfl rfl ?_
        refine at_skip rfl rfl rfl rfl ?_
        refine at_pure (pv_pick_f rfl rfl rfl) rfl ?_
        refine at_pure (pv_move rfl) rfl ?_
        refine at_skip rfl rfl rfl rfl ?_
        refine at_skip rfl rfl rfl rfl ?_
        refine at_skip rfl rfl rfl rfl ?_
        refine at_pure (pv_pick_f rfl rfl rfl) rfl ?_
        refine at_pure (pv_move rfl) rfl ?_
        refine at_skip rfl rfl rfl rfl ?_
        refine at_skip rfl rfl rfl rfl ?_
        refine at_skip rfl rfl rfl rfl ?_
        refine at_pure (pv_pick_f rfl rfl rfl) rfl ?_
        refine at_pure (pv_move rfl) rfl ?_
        refine at_skip rfl rfl rfl rfl ?_
        refine at_skip rfl rfl rfl rfl ?_
        refine at_skip rfl rfl rfl rfl ?_
        refine at_pure (pv_pick_f rfl rfl rfl) rfl ?_
        refine at_pure (pv_assign rfl) rfl ?_
        refine at_nil ?_
        refine ex_go ?_
        refine cd_ret ?_
        exact end_ret1 rfl rfl (fun w hs => ⟨by clear hs; refine congrArg (fun b => Ending.returned (.bool b)) ?_; first | (simp_all [validE, inB]; done) | (simp_all [validE, inB]; omega), hs.keep⟩)
    · skip
      refine at_skip rfl rfl hb2 rfl ?_
      refine at_skip rfl rfl hb2 rfl ?_
      refine at_skip rfl rfl hb2 rfl ?_
      refine at_pure (pv_pick_f rfl hb2 rfl) rfl ?_
      refine at_pure (pv_move rfl) rfl ?_
      refine at_skip rfl rfl rfl rfl ?_
      refine at_skip rfl rfl rfl rfl ?_
      refine at_skip rfl rfl rfl rfl ?_
      refine at_pure (pv_pick_f rfl rfl rfl) rfl ?_
      refine at_pure (pv_move rfl) rfl ?_
      refine at_skip rfl rfl rfl rfl ?_
      refine at_skip rfl rfl rfl rfl ?_
      refine at_skip rfl rfl rfl rfl ?_
      refine at_pure (pv_pick_f rfl rfl rfl) rfl ?_
      refine at_pure (pv_move rfl) rfl ?_
      refine at_skip rfl rfl rfl rfl ?_
      refine at_skip rfl rfl rfl rfl ?_
      refine at_skip rfl rfl rfl rfl ?_
      refine at_skip rfl rfl rfl rfl ?_
      refine at_skip rfl rfl rfl rfl ?_
      refine at_pure (pv_pick_f rfl rfl rfl) rfl ?_
      refine at_pure (pv_move rfl) rfl ?_
      refine at_skip rfl rfl rfl rfl ?_
      refine at_skip rfl rfl rfl rfl ?_
      refine at_skip rfl rfl rfl rfl ?_
      refine at_pure (pv_pick_f rfl rfl rfl) rfl ?_
      refine at_pure (pv_move rfl) rfl ?_
      refine at_skip rfl rfl rfl rfl ?_
      refine at_skip rfl rfl rfl rfl ?_
      refine at_skip rfl rfl rfl rfl ?_
      refine at_pure (pv_pick_f rfl rfl rfl) rfl ?_
      refine at_pure (pv_move rfl) rfl ?_
      refine at_skip rfl rfl rfl rfl ?_
      refine at_skip rfl rfl rfl rfl ?_
      refine at_skip rfl rfl rfl rfl ?_
      refine at_pure (pv_pick_f rfl rfl rfl) rfl ?_
      refine at_pure (pv_move rfl) rfl ?_
      refine at_skip rfl rfl rfl rfl ?_
      refine at_skip rfl rfl rfl rfl ?_
      refine at_skip rfl rfl rfl rfl ?_
      refine at_pure (pv_pick_f rfl rfl rfl) rfl ?_
      refine at_pure (pv_assign rfl) rfl ?_
      refine at_nil ?_
      refine ex_go ?_
      refine cd_ret ?_
      exact end_ret1 rfl rfl (fun w hs => ⟨by clear hs; refine congrArg (fun b => Ending.returned (.bool b)) ?_; first | (simp_all [validE, inB]; done) | (simp_all [validE, inB]; omega), hs.keep⟩)
  · skip
    refine at_skip rfl rfl hb1 rfl ?_
    refine at_skip rfl rfl hb1 rfl ?_
    refine at_skip rfl rfl hb1 rfl ?_
    refine at_pure (pv_pick_f rfl hb1 rfl) rfl ?_
    refine at_pure (pv_move rfl) rfl ?_
    refine at_skip rfl rfl rfl rfl ?_
    refine at_skip rfl rfl rfl rfl ?_
    refine at_skip rfl rfl rfl rfl ?_
    refine at_pure (pv_pick_f rfl rfl rfl) rfl ?_
    refine at_pure (pv_move rfl) rfl ?_
    refine at_skip rfl rfl rfl rfl ?_
    refine at_skip rfl rfl rfl rfl ?_
    refine at_skip rfl rfl rfl rfl ?_
    refine at_pure (pv_pick_f rfl rfl rfl) rfl ?_
    refine at_pure (pv_move rfl) rfl ?_
    refine at_skip rfl rfl rfl rfl ?_
    refine at_skip rfl rfl rfl rfl ?_
    refine at_skip rfl rfl rfl rfl ?_
    refine at_pure (pv_pick_f rfl rfl rfl) rfl ?_
    refine at_pure (pv_move rfl) rfl ?_
    refine at_skip rfl rfl rfl rfl ?_
    refine at_skip rfl rfl rfl rfl ?_
    refine at_skip rfl rfl rfl rfl ?_
    refine at_skip rfl rfl rfl rfl ?_
    refine at_skip rfl rfl rfl rfl ?_
    refine at_pure (pv_pick_f rfl rfl rfl) rfl ?_
    refine at_pure (pv_move rfl) rfl ?_
    refine at_skip rfl rfl rfl rfl ?_
    refine at_skip rfl rfl rfl rfl ?_
    refine at_skip rfl rfl rfl rfl ?_
    refine at_pure (pv_pick_f rfl rfl rfl) rfl ?_
    refine at_pure (pv_move rfl) rfl ?_
    refine at_skip rfl rfl rfl rfl ?_
    refine at_skip rfl rfl rfl rfl ?_
    refine at_skip rfl rfl rfl rfl ?_
    refine at_pure (pv_pick_f rfl rfl rfl) rfl ?_
    refine at_pure (pv_move rfl) rfl ?_
    refine at_skip rfl rfl rfl rfl ?_
    refine at_skip rfl rfl rfl rfl ?_
    refine at_skip rfl rfl rfl rfl ?_
    refine at_pure (pv_pick_f rfl rfl rfl) rfl ?_
    refine at_pure (pv_move rfl) rfl ?_
    refine at_skip rfl rfl rfl rfl ?_
    refine at_skip rfl rfl rfl rfl ?_
    refine at_skip rfl rfl rfl rfl ?_
    refine at_pure (pv_pick_f rfl rfl rfl) rfl ?_
    refine at_pure (pv_assign rfl) rfl ?_
    refine at_nil ?_
    refine ex_go ?_
    refine cd_ret ?_
    exact end_ret1 rfl rfl (fun w hs => ⟨by clear hs; refine congrArg (fun b => Ending.returned (.bool b)) ?_; first | (simp_all [validE, inB]; done) | (simp_all [validE, inB]; omega), hs.keep⟩)

theorem step_next (g h f r o want : Int) (w : World) (hv : validE g h f r o = true) (hw : 0 ≤ want ∧ want ≤ 262144) : Calls Try.prog 54 [.agg #[.int .i64 g, .int .i64 h], .agg #[.int .i64 f, .int .i64 r, .int .i64 o], .int .i64 want].toArray w (Val (.agg #[.int .i64 (nextG g h f r o want), .int .i64 (nextH g h f r o want)]) w) := by
  have hv' := (validE_iff g h f r o).1 hv
  refine calls_body (n := 50) Try.func54 rfl rfl rfl (St.init _ []) ?_
  refine cd_seq ?_
  refine cd_region ?_
  refine at_does (does_box rfl .agg (fun _ => .nil)) rfl (fun g1 => ?_)
  refine at_does (does_box rfl .agg (fun _ => (.cons .nil))) rfl (fun g2 => ?_)
  refine at_does (does_alloc ze_38 .agg (fun _ => (.cons (.cons .nil)))) rfl (fun g3 => ?_)
  refine at_nil ?_
  refine ex_go ?_
  refine cd_seq ?_
  refine cd_block ?_
  refine cd_seq ?_
  refine cd_region ?_
  refine at_pure (pv_move rfl) rfl ?_
  refine at_pure (pv_field0 fa_38_0 rfl (r := 0) rfl) rfl ?_
  refine at_pure (by exact pv_load ld_3 rfl (box_cell .z .z)) rfl ?_
  refine at_pure (pv_lss rfl rfl) rfl ?_
  refine at_pure (pv_assign rfl) rfl ?_
  refine at_nil ?_
  refine ex_go ?_
  refine cd_if rfl (fun hb1 => ?_) (fun hb1 => ?_)
  · skip
    refine cd_seq ?_
    refine cd_region ?_
    refine at_pure (pv_move rfl) rfl ?_
    refine at_pure (pv_field0 fa_38_0 rfl (r := 0) rfl) rfl ?_
    refine at_pure (by exact pv_load ld_3 rfl (box_cell .z .z)) rfl ?_
    refine at_pure (pv_field0 fa_40_0 rfl (r := 0) rfl) rfl ?_
    refine at_pure (by exact pv_load ld_3 rfl (box_cell (.s .z) .z)) rfl ?_
    refine at_pure (by first | exact pv_sub_n rfl rfl (by unfold In64; omega) | exact pv_sub rfl rfl) rfl ?_
    refine at_pure (pv_max rfl rfl) rfl ?_
    refine at_pure (pv_field0 fa_40_2 rfl (r := 2) rfl) rfl ?_
    refine at_pure (by exact pv_load ld_3 rfl (box_cell (.s .z) (.s (.s .z)))) rfl ?_
    refine at_pure (pv_build rfl (bu_38_0_1 _ _)) rfl ?_
    refine at_turns (by exact turns_store sz_38 rfl rfl .agg rfl rfl (.s (.s .z)) (.rep (.rep .done)) (.s (.s .z))) ?_
    refine at_nil ?_
    refine ex_go ?_
    refine cd_ret ?_
    refine ex_in_ret (ex_then_ret ?_)
    exact end_c rfl (by exact Lies.box ag_38 rfl (.s (.s .z)) rfl) (fun w hs => ⟨by clear hs; refine eq_agg2 ?_ ?_ <;> (simp only [decide_eq_true_eq, decide_eq_false_iff_not] at *; simp only [nextG, nextH]; first | omega | (repeat' split) <;> omega), hs.keep⟩)
  · skip
    refine cd_seq ?_
    refine cd_region ?_
    refine at_pure (pv_move rfl) rfl ?_
    refine at_pure (pv_field0 fa_38_0 rfl (r := 0) rfl) rfl ?_
    refine at_pure (by exact pv_load ld_3 rfl (box_cell .z .z)) rfl ?_
    refine at_pure (pv_gtr rfl rfl) rfl ?_
    refine at_pure (pv_move rfl) rfl ?_
    refine at_split 27 rfl (fun hb2 => ?_) (fun hb2 => ?_)
    · skip
      refine at_pure_g rfl rfl hb2 (pv_field0 fa_38_1 rfl (r := 1) rfl) rfl ?_
      refine at_pure_g rfl rfl hb2 (by exact pv_load ld_3 rfl (box_cell .z (.s .z))) rfl ?_
      refine at_pure_g rfl rfl hb2 (pv_gtr rfl rfl) rfl ?_
      refine at_pure (pv_pick_t rfl hb2 rfl) rfl ?_
      refine at_pure (pv_assign rfl) rfl ?_
      refine at_nil ?_
      refine ex_go ?_
      refine cd_if rfl (fun hb3 => ?_) (fun hb3 => ?_)
      · skip
        refine cd_region ?_
        refine at_pure (pv_field0 fa_38_1 rfl (r := 1) rfl) rfl ?_
        refine at_pure (by exact pv_load ld_3 rfl (box_cell .z (.s .z))) rfl ?_
        refine at_pure (by first | exact pv_sub_n rfl rfl (by unfold In64; omega) | exact pv_sub rfl rfl) rfl ?_
        refine at_pure (pv_field0 fa_38_1 rfl (r := 1) rfl) rfl ?_
        refine at_turns (by exact turns_store sz_3 rfl rfl (.one rfl) rfl rfl .z (.skip (.rep .done)) .z) ?_
        refine at_nil ?_
        refine ex_in_normal (ex_go ?_)
        refine cd_seq ?_
        refine cd_region ?_
        refine at_pure (by exact pv_loads_box ag_38 rfl .z (.take (.take .done))) rfl ?_
        refine at_turns (by exact turns_store sz_38 rfl rfl .agg rfl rfl (.s (.s .z)) (.rep (.rep .done)) (.s (.s .z))) ?_
        refine at_nil ?_
        refine ex_go ?_
        refine cd_ret ?_
        exact end_c rfl (by exact Lies.box ag_38 rfl (.s (.s .z)) rfl) (fun w hs => ⟨by clear hs; refine eq_agg2 ?_ ?_ <;> (simp only [decide_eq_true_eq, decide_eq_false_iff_not] at *; simp only [nextG, nextH]; first | omega | (repeat' split) <;> omega), hs.keep⟩)
      · skip
        refine cd_seq ?_
        refine cd_region ?_
        refine at_pure (pv_move rfl) rfl ?_
        refine at_pure (pv_field0 fa_38_0 rfl (r := 0) rfl) rfl ?_
        refine at_pure (by exact pv_load ld_3 rfl (box_cell .z .z)) rfl ?_
        refine at_pure (pv_gtr rfl rfl) rfl ?_
        refine at_pure (pv_assign rfl) rfl ?_
        refine at_nil ?_
        refine ex_go ?_
        refine cd_if rfl (fun hb4 => ?_) (fun hb4 => ?_)
        · skip
          refine cd_region ?_
          refine at_pure (pv_move rfl) rfl ?_
          refine at_pure (pv_field0 fa_38_0 rfl (r := 0) rfl) rfl ?_
          refine at_pure (by exact pv_load ld_3 rfl (box_cell .z .z)) rfl ?_
          refine at_pure (pv_field0 fa_40_1 rfl (r := 1) rfl) rfl ?_
          refine at_pure (by exact pv_load ld_3 rfl (box_cell (.s .z) (.s .z))) rfl ?_
          refine at_pure (by first | exact pv_add_n rfl rfl (by unfold In64; omega) | exact pv_add rfl rfl) rfl ?_
          refine at_pure (pv_min rfl rfl) rfl ?_
          refine at_pure (pv_field0 fa_38_0 rfl (r := 0) rfl) rfl ?_
          refine at_turns (by exact turns_store sz_3 rfl rfl (.one rfl) rfl rfl .z (.rep .done) .z) ?_
          refine at_nil ?_
          refine ex_in_normal (ex_go ?_)
          refine cd_seq ?_
          refine cd_region ?_
          refine at_pure (by exact pv_loads_box ag_38 rfl .z (.take (.take .done))) rfl ?_
          refine at_turns (by exact turns_store sz_38 rfl rfl .agg rfl rfl (.s (.s .z)) (.rep (.rep .done)) (.s (.s .z))) ?_
          refine at_nil ?_
          refine ex_go ?_
          refine cd_ret ?_
          exact end_c rfl (by exact Lies.box ag_38 rfl (.s (.s .z)) rfl) (fun w hs => ⟨by clear hs; refine eq_agg2 ?_ ?_ <;> (simp only [decide_eq_true_eq, decide_eq_false_iff_not] at *; simp only [nextG, nextH]; first | omega | (repeat' split) <;> omega), hs.keep⟩)
        · skip
          refine cd_skip ?_
          refine ex_in_normal (ex_go ?_)
          refine cd_seq ?_
          refine cd_region ?_
          refine at_pure (by exact pv_loads_box ag_38 rfl .z (.take (.take .done))) rfl ?_
          refine at_turns (by exact turns_store sz_38 rfl rfl .agg rfl rfl (.s (.s .z)) (.rep (.rep .done)) (.s (.s .z))) ?_
          refine at_nil ?_
          refine ex_go ?_
          refine cd_ret ?_
          exact end_c rfl (by exact Lies.box ag_38 rfl (.s (.s .z)) rfl) (fun w hs => ⟨by clear hs; refine eq_agg2 ?_ ?_ <;> (simp only [decide_eq_true_eq, decide_eq_false_iff_not] at *; simp only [nextG, nextH]; first | omega | (repeat' split) <;> omega), hs.keep⟩)
    · skip
      refine at_skip rfl rfl hb2 rfl ?_
      refine at_skip rfl rfl hb2 rfl ?_
      refine at_skip rfl rfl hb2 rfl ?_
      refine at_pure (pv_pick_f rfl hb2 rfl) rfl ?_
      refine at_pure (pv_assign rfl) rfl ?_
      refine at_nil ?_
      refine ex_go ?_
      refine cd_else rfl rfl ?_
      refine cd_seq ?_
      refine cd_region ?_
      refine at_pure (pv_move rfl) rfl ?_
      refine at_pure (pv_field0 fa_38_0 rfl (r := 0) rfl) rfl ?_
      refine at_pure (by exact pv_load ld_3 rfl (box_cell .z .z)) rfl ?_
      refine at_pure (pv_gtr rfl rfl) rfl ?_
      refine at_pure (pv_assign rfl) rfl ?_
      refine at_nil ?_
      refine ex_go ?_
      refine cd_if rfl (fun hb5 => ?_) (fun hb5 => ?_)
      · skip
        refine cd_region ?_
        refine at_pure (pv_move rfl) rfl ?_
        refine at_pure (pv_field0 fa_38_0 rfl (r := 0) rfl) rfl ?_
        refine at_pure (by exact pv_load ld_3 rfl (box_cell .z .z)) rfl ?_
        refine at_pure (pv_field0 fa_40_1 rfl (r := 1) rfl) rfl ?_
        refine at_pure (by exact pv_load ld_3 rfl (box_cell (.s .z) (.s .z))) rfl ?_
        refine at_pure (by first | exact pv_add_n rfl rfl (by unfold In64; omega) | exact pv_add rfl rfl) rfl ?_
        refine at_pure (pv_min rfl rfl) rfl ?_
        refine at_pure (pv_field0 fa_38_0 rfl (r := 0) rfl) rfl ?_
        refine at_turns (by exact turns_store sz_3 rfl rfl (.one rfl) rfl rfl .z (.rep .done) .z) ?_
        refine at_nil ?_
        refine ex_in_normal (ex_go ?_)
        refine cd_seq ?_
        refine cd_region ?_
        refine at_pure (by exact pv_loads_box ag_38 rfl .z (.take (.take .done))) rfl ?_
        refine at_turns (by exact turns_store sz_38 rfl rfl .agg rfl rfl (.s (.s .z)) (.rep (.rep .done)) (.s (.s .z))) ?_
        refine at_nil ?_
        refine ex_go ?_
        refine cd_ret ?_
        exact end_c rfl (by exact Lies.box ag_38 rfl (.s (.s .z)) rfl) (fun w hs => ⟨by clear hs; refine eq_agg2 ?_ ?_ <;> (simp only [decide_eq_true_eq, decide_eq_false_iff_not] at *; simp only [nextG, nextH]; first | omega | (repeat' split) <;> omega), hs.keep⟩)
      · skip
        refine cd_skip ?_
        refine ex_in_normal (ex_go ?_)
        refine cd_seq ?_
        refine cd_region ?_
        refine at_pure (by exact pv_loads_box ag_38 rfl .z (.take (.take .done))) rfl ?_
        refine at_turns (by exact turns_store sz_38 rfl rfl .agg rfl rfl (.s (.s .z)) (.rep (.rep .done)) (.s (.s .z))) ?_
        refine at_nil ?_
        refine ex_go ?_
        refine cd_ret ?_
        exact end_c rfl (by exact Lies.box ag_38 rfl (.s (.s .z)) rfl) (fun w hs => ⟨by clear hs; refine eq_agg2 ?_ ?_ <;> (simp only [decide_eq_true_eq, decide_eq_false_iff_not] at *; simp only [nextG, nextH]; first | omega | (repeat' split) <;> omega), hs.keep⟩)

theorem step_moved (g h f r o want : Int) (w : World) (hv : validE g h f r o = true) (hw : 0 ≤ want ∧ want ≤ 262144) : Calls Try.prog 55 [.agg #[.int .i64 g, .int .i64 h], .agg #[.int .i64 f, .int .i64 r, .int .i64 o], .int .i64 want].toArray w (Val (.agg #[.int .i64 (nextG g h f r o want), .int .i64 (nextH g h f r o want)]) w) := by
  have hv' := (validE_iff g h f r o).1 hv
  refine calls_body (n := 52) Try.func55 rfl rfl rfl (St.init _ []) ?_
  refine cd_seq ?_
  refine cd_region ?_
  refine at_does (does_box rfl .agg (fun _ => .nil)) rfl (fun g1 => ?_)
  refine at_does (does_box rfl .agg (fun _ => (.cons .nil))) rfl (fun g2 => ?_)
  refine at_does (does_alloc ze_38 .agg (fun _ => (.cons (.cons .nil)))) rfl (fun g3 => ?_)
  refine at_nil ?_
  refine ex_go ?_
  refine cd_seq ?_
  refine cd_block ?_
  refine cd_seq ?_
  refine cd_region ?_
  refine at_pure (pv_move rfl) rfl ?_
  refine at_pure (pv_field0 fa_38_0 rfl (r := 0) rfl) rfl ?_
  refine at_pure (by exact pv_load ld_3 rfl (box_cell .z .z)) rfl ?_
  refine at_pure (pv_lss rfl rfl) rfl ?_
  refine at_pure (pv_assign rfl) rfl ?_
  refine at_nil ?_
  refine ex_go ?_
  refine cd_if rfl (fun hb1 => ?_) (fun hb1 => ?_)
  · skip
    refine cd_seq ?_
    refine cd_region ?_
    refine at_pure (pv_move rfl) rfl ?_
    refine at_pure (pv_field0 fa_38_0 rfl (r := 0) rfl) rfl ?_
    refine at_pure (by exact pv_load ld_3 rfl (box_cell .z .z)) rfl ?_
    refine at_pure (pv_field0 fa_40_0 rfl (r := 0) rfl) rfl ?_
    refine at_pure (by exact pv_load ld_3 rfl (box_cell (.s .z) .z)) rfl ?_
    refine at_pure (by first | exact pv_sub_n rfl rfl (by unfold In64; omega) | exact pv_sub rfl rfl) rfl ?_
    refine at_pure (pv_max rfl rfl) rfl ?_
    refine at_pure (pv_field0 fa_40_2 rfl (r := 2) rfl) rfl ?_
    refine at_pure (by exact pv_load ld_3 rfl (box_cell (.s .z) (.s (.s .z)))) rfl ?_
    refine at_pure (pv_build rfl (bu_38_0_1 _ _)) rfl ?_
    refine at_turns (by exact turns_store sz_38 rfl rfl .agg rfl rfl (.s (.s .z)) (.rep (.rep .done)) (.s (.s .z))) ?_
    refine at_nil ?_
    refine ex_go ?_
    refine cd_ret ?_
    refine ex_in_ret (ex_then_ret ?_)
    exact end_c rfl (by exact Lies.box ag_38 rfl (.s (.s .z)) rfl) (fun w hs => ⟨by clear hs; refine eq_agg2 ?_ ?_ <;> (simp only [decide_eq_true_eq, decide_eq_false_iff_not] at *; simp only [nextG, nextH]; first | omega | (repeat' split) <;> omega), hs.keep⟩)
  · skip
    refine cd_seq ?_
    refine cd_region ?_
    refine at_pure (pv_move rfl) rfl ?_
    refine at_pure (pv_field0 fa_38_0 rfl (r := 0) rfl) rfl ?_
    refine at_pure (by exact pv_load ld_3 rfl (box_cell .z .z)) rfl ?_
    refine at_pure (pv_gtr rfl rfl) rfl ?_
    refine at_pure (pv_move rfl) rfl ?_
    refine at_split 27 rfl (fun hb2 => ?_) (fun hb2 => ?_)
    · skip
      refine at_pure_g rfl rfl hb2 (pv_field0 fa_38_1 rfl (r := 1) rfl) rfl ?_
      refine at_pure_g rfl rfl hb2 (by exact pv_load ld_3 rfl (box_cell .z (.s .z))) rfl ?_
      refine at_pure_g rfl rfl hb2 (pv_gtr rfl rfl) rfl ?_
      refine at_pure (pv_pick_t rfl hb2 rfl) rfl ?_
      refine at_pure (pv_assign rfl) rfl ?_
      refine at_nil ?_
      refine ex_go ?_
      refine cd_if rfl (fun hb3 => ?_) (fun hb3 => ?_)
      · skip
        refine cd_seq ?_
        refine cd_region ?_
        refine at_pure (pv_field0 fa_38_0 rfl (r := 0) rfl) rfl ?_
        refine at_pure (by exact pv_load ld_3 rfl (box_cell .z .z)) rfl ?_
        refine at_pure (pv_field0 fa_38_1 rfl (r := 1) rfl) rfl ?_
        refine at_pure (by exact pv_load ld_3 rfl (box_cell .z (.s .z))) rfl ?_
        refine at_pure (by first | exact pv_sub_n rfl rfl (by unfold In64; omega) | exact pv_sub rfl rfl) rfl ?_
        refine at_pure (pv_build rfl (bu_38_0_1 _ _)) rfl ?_
        refine at_turns (by exact turns_store sz_38 rfl rfl .agg rfl rfl (.s (.s .z)) (.rep (.rep .done)) (.s (.s .z))) ?_
        refine at_nil ?_
        refine ex_go ?_
        refine cd_ret ?_
        refine ex_in_ret (ex_then_ret ?_)
        exact end_c rfl (by exact Lies.box ag_38 rfl (.s (.s .z)) rfl) (fun w hs => ⟨by clear hs; refine eq_agg2 ?_ ?_ <;> (simp only [decide_eq_true_eq, decide_eq_false_iff_not] at *; simp only [nextG, nextH]; first | omega | (repeat' split) <;> omega), hs.keep⟩)
      · skip
        refine cd_seq ?_
        refine cd_region ?_
        refine at_pure (pv_move rfl) rfl ?_
        refine at_pure (pv_field0 fa_38_0 rfl (r := 0) rfl) rfl ?_
        refine at_pure (by exact pv_load ld_3 rfl (box_cell .z .z)) rfl ?_
        refine at_pure (pv_gtr rfl rfl) rfl ?_
        refine at_pure (pv_assign rfl) rfl ?_
        refine at_nil ?_
        refine ex_go ?_
        refine cd_if rfl (fun hb4 => ?_) (fun hb4 => ?_)
        · skip
          refine cd_seq ?_
          refine cd_region ?_
          refine at_pure (pv_move rfl) rfl ?_
          refine at_pure (pv_field0 fa_38_0 rfl (r := 0) rfl) rfl ?_
          refine at_pure (by exact pv_load ld_3 rfl (box_cell .z .z)) rfl ?_
          refine at_pure (pv_field0 fa_40_1 rfl (r := 1) rfl) rfl ?_
          refine at_pure (by exact pv_load ld_3 rfl (box_cell (.s .z) (.s .z))) rfl ?_
          refine at_pure (by first | exact pv_add_n rfl rfl (by unfold In64; omega) | exact pv_add rfl rfl) rfl ?_
          refine at_pure (pv_min rfl rfl) rfl ?_
          refine at_pure (pv_build rfl (bu_38_0 _)) rfl ?_
          refine at_turns (by exact turns_store sz_38 rfl rfl .agg rfl rfl (.s (.s .z)) (.rep (.rep .done)) (.s (.s .z))) ?_
          refine at_nil ?_
          refine ex_go ?_
          refine cd_ret ?_
          refine ex_in_ret (ex_then_ret ?_)
          exact end_c rfl (by exact Lies.box ag_38 rfl (.s (.s .z)) rfl) (fun w hs => ⟨by clear hs; refine eq_agg2 ?_ ?_ <;> (simp only [decide_eq_true_eq, decide_eq_false_iff_not] at *; simp only [nextG, nextH]; first | omega | (repeat' split) <;> omega), hs.keep⟩)
        · skip
          refine cd_skip ?_
          refine ex_in_normal (ex_go ?_)
          refine cd_seq ?_
          refine cd_region ?_
          refine at_pure (by exact pv_loads_box ag_38 rfl .z (.take (.take .done))) rfl ?_
          refine at_turns (by exact turns_store sz_38 rfl rfl .agg rfl rfl (.s (.s .z)) (.rep (.rep .done)) (.s (.s .z))) ?_
          refine at_nil ?_
          refine ex_go ?_
          refine cd_ret ?_
          exact end_c rfl (by exact Lies.box ag_38 rfl (.s (.s .z)) rfl) (fun w hs => ⟨by clear hs; refine eq_agg2 ?_ ?_ <;> (simp only [decide_eq_true_eq, decide_eq_false_iff_not] at *; simp only [nextG, nextH]; first | omega | (repeat' split) <;> omega), hs.keep⟩)
    · skip
      refine at_skip rfl rfl hb2 rfl ?_
      refine at_skip rfl rfl hb2 rfl ?_
      refine at_skip rfl rfl hb2 rfl ?_
      refine at_pure (pv_pick_f rfl hb2 rfl) rfl ?_
      refine at_pure (pv_assign rfl) rfl ?_
      refine at_nil ?_
      refine ex_go ?_
      refine cd_else rfl rfl ?_
      refine cd_seq ?_
      refine cd_region ?_
      refine at_pure (pv_move rfl) rfl ?_
      refine at_pure (pv_field0 fa_38_0 rfl (r := 0) rfl) rfl ?_
      refine at_pure (by exact pv_load ld_3 rfl (box_cell .z .z)) rfl ?_
      refine at_pure (pv_gtr rfl rfl) rfl ?_
      refine at_pure (pv_assign rfl) rfl ?_
      refine at_nil ?_
      refine ex_go ?_
      refine cd_if rfl (fun hb5 => ?_) (fun hb5 => ?_)
      · skip
        refine cd_seq ?_
        refine cd_region ?_
        refine at_pure (pv_move rfl) rfl ?_
        refine at_pure (pv_field0 fa_38_0 rfl (r := 0) rfl) rfl ?_
        refine at_pure (by exact pv_load ld_3 rfl (box_cell .z .z)) rfl ?_
        refine at_pure (pv_field0 fa_40_1 rfl (r := 1) rfl) rfl ?_
        refine at_pure (by exact pv_load ld_3 rfl (box_cell (.s .z) (.s .z))) rfl ?_
        refine at_pure (by first | exact pv_add_n rfl rfl (by unfold In64; omega) | exact pv_add rfl rfl) rfl ?_
        refine at_pure (pv_min rfl rfl) rfl ?_
        refine at_pure (pv_build rfl (bu_38_0 _)) rfl ?_
        refine at_turns (by exact turns_store sz_38 rfl rfl .agg rfl rfl (.s (.s .z)) (.rep (.rep .done)) (.s (.s .z))) ?_
        refine at_nil ?_
        refine ex_go ?_
        refine cd_ret ?_
        refine ex_in_ret (ex_then_ret ?_)
        exact end_c rfl (by exact Lies.box ag_38 rfl (.s (.s .z)) rfl) (fun w hs => ⟨by clear hs; refine eq_agg2 ?_ ?_ <;> (simp only [decide_eq_true_eq, decide_eq_false_iff_not] at *; simp only [nextG, nextH]; first | omega | (repeat' split) <;> omega), hs.keep⟩)
      · skip
        refine cd_skip ?_
        refine ex_in_normal (ex_go ?_)
        refine cd_seq ?_
        refine cd_region ?_
        refine at_pure (by exact pv_loads_box ag_38 rfl .z (.take (.take .done))) rfl ?_
        refine at_turns (by exact turns_store sz_38 rfl rfl .agg rfl rfl (.s (.s .z)) (.rep (.rep .done)) (.s (.s .z))) ?_
        refine at_nil ?_
        refine ex_go ?_
        refine cd_ret ?_
        exact end_c rfl (by exact Lies.box ag_38 rfl (.s (.s .z)) rfl) (fun w hs => ⟨by clear hs; refine eq_agg2 ?_ ?_ <;> (simp only [decide_eq_true_eq, decide_eq_false_iff_not] at *; simp only [nextG, nextH]; first | omega | (repeat' split) <;> omega), hs.keep⟩)

def stepOk (g h f r o want n : Int) : Bool := validE g h f r o && (inB want 0 262144 && inB n 16 8192)
def stepV (g h f r o want n : Int) : Value := .tuple #[.agg #[.int .i64 (sel (stepOk g h f r o want n) (nextG g h f r o want) 0), .int .i64 (sel (stepOk g h f r o want n) (nextH g h f r o want) 0)], .agg #[.int .i64 (sel (stepOk g h f r o want n) g 0), .int .i64 (sel (stepOk g h f r o want n) (nextG g h f r o want) 0), .int .i64 (sel (stepOk g h f r o want n) n 0), .int .i64 0], .int .i64 (sel (validE g h f r o) (sel (inB want 0 262144 && inB n 16 8192) 0 2) 1)]
theorem stepV_1 (g h f r o want n : Int) (h1 : validE g h f r o = false) : stepV g h f r o want n = .tuple #[.agg #[.int .i64 0, .int .i64 0], .agg #[.int .i64 0, .int .i64 0, .int .i64 0, .int .i64 0], .int .i64 1] := by simp [stepV, stepOk, sel, h1]
theorem stepV_2 (g h f r o want n : Int) (h1 : validE g h f r o = true) (h2 : (inB want 0 262144 && inB n 16 8192) = false) : stepV g h f r o want n = .tuple #[.agg #[.int .i64 0, .int .i64 0], .agg #[.int .i64 0, .int .i64 0, .int .i64 0, .int .i64 0], .int .i64 2] := by unfold stepV stepOk; rw [h1, h2]; rfl
theorem stepV_3 (g h f r o want n : Int) (h1 : validE g h f r o = true) (h2 : (inB want 0 262144 && inB n 16 8192) = true) : stepV g h f r o want n = .tuple #[.agg #[.int .i64 (nextG g h f r o want), .int .i64 (nextH g h f r o want)], .agg #[.int .i64 g, .int .i64 (nextG g h f r o want), .int .i64 n, .int .i64 0], .int .i64 0] := by unfold stepV stepOk; rw [h1, h2]; rfl

theorem step_any (g h f r o want n : Int) (w : World) : Calls Try.prog 23 [.agg #[.int .i64 g, .int .i64 h], .agg #[.int .i64 f, .int .i64 r, .int .i64 o], .int .i64 want, .int .i64 n].toArray w (Val (stepV g h f r o want n) w) := by
  refine calls_body (n := 41) Try.func23 rfl rfl rfl (St.init _ []) ?_
  refine cd_seq ?_
  refine cd_region ?_
  refine at_does (does_box rfl .agg (fun _ => .nil)) rfl (fun g1 => ?_)
  refine at_does (does_box rfl .agg (fun _ => (.cons .nil))) rfl (fun g2 => ?_)
  refine at_does (does_alloc ze_38 .agg (fun _ => (.cons (.cons .nil)))) rfl (fun g3 => ?_)
  refine at_does (does_alloc ze_45 .agg (fun _ => (.cons (.cons (.cons .nil))))) rfl (fun g4 => ?_)
  refine at_pure (pv_assign rfl) rfl ?_
  refine at_nil ?_
  refine ex_go ?_
  refine cd_seq ?_
  refine cd_block ?_
  refine cd_seq ?_
  refine cd_region ?_
  refine at_pure (by exact pv_loads_box ag_38 rfl .z (.take (.take .done))) rfl ?_
  refine at_pure (by exact pv_loads_box ag_40 rfl (.s .z) (.take (.take (.take .done)))) rfl ?_
  refine at_does (does_val cal21 rfl rfl rfl (fun w hs => valid_any _ _ _ _ _ w)) rfl (fun _ => ?_)
  refine at_pure (pv_not rfl) rfl ?_
  refine at_pure (pv_assign rfl) rfl ?_
  refine at_nil ?_
  refine ex_go ?_
  refine cd_if rfl (fun hb1 => ?_) (fun hb1 => ?_)
  · skip
    refine cd_seq ?_
    refine cd_region ?_
    refine at_pure (pv_build rfl (bu_38_)) rfl ?_
    refine at_pure (pv_build rfl (bu_45_)) rfl ?_
    refine at_turns (by exact turns_store sz_38 rfl rfl .agg rfl rfl (.s (.s .z)) (.rep (.rep .done)) (.s (.s .z))) ?_
    refine at_turns (by exact turns_store sz_45 rfl rfl .agg rfl rfl (.s (.s (.s .z))) (.rep (.rep (.rep (.rep .done)))) (.s (.s (.s .z)))) ?_
    refine at_pure (pv_assign rfl) rfl ?_
    refine at_nil ?_
    refine ex_go ?_
    refine cd_ret ?_
    refine ex_in_ret (ex_then_ret ?_)
    exact end_cct rfl (by exact Lies.box ag_38 rfl (.s (.s .z)) rfl) (by exact Lies.box ag_45 rfl (.s (.s (.s .z))) rfl) rfl (fun w hs => ⟨by clear hs; first | exact congrArg Ending.returned (stepV_1 g h f r o want n (by simpa using hb1)).symm | exact congrArg Ending.returned (stepV_2 g h f r o want n (by simpa using hb1) (by first | (simp_all; done) | (simp_all [inB]; try omega))).symm | exact congrArg Ending.returned (stepV_3 g h f r o want n q1 (by simp [inB]; omega)).symm, hs.keep⟩)
  · skip
    refine cd_seq ?_
    refine cd_region ?_
    refine at_pure (pv_move rfl) rfl ?_
    refine at_does (does_val cal53 rfl rfl rfl (fun w hs => within_any _ _ _ w)) rfl (fun _ => ?_)
    refine at_pure (pv_not rfl) rfl ?_
    refine at_pure (pv_move rfl) rfl ?_
    refine at_split 23 rfl (fun hb2 => ?_) (fun hb2 => ?_)
    · skip
      refine at_skip rfl rfl hb2 rfl ?_
      refine at_skip rfl rfl hb2 rfl ?_
      refine at_skip rfl rfl hb2 rfl ?_
      refine at_pure (pv_pick_t rfl hb2 rfl) rfl ?_
      refine at_pure (pv_assign rfl) rfl ?_
      refine at_nil ?_
      refine ex_go ?_
      refine cd_then rfl rfl ?_
      refine cd_seq ?_
      refine cd_region ?_
      refine at_pure (pv_build rfl (bu_38_)) rfl ?_
      refine at_pure (pv_build rfl (bu_45_)) rfl ?_
      refine at_turns (by exact turns_store sz_38 rfl rfl .agg rfl rfl (.s (.s .z)) (.rep (.rep .done)) (.s (.s .z))) ?_
      refine at_turns (by exact turns_store sz_45 rfl rfl .agg rfl rfl (.s (.s (.s .z))) (.rep (.rep (.rep (.rep .done)))) (.s (.s (.s .z)))) ?_
      refine at_pure (pv_assign rfl) rfl ?_
      refine at_nil ?_
      refine ex_go ?_
      refine cd_ret ?_
      refine ex_in_ret (ex_then_ret ?_)
      exact end_cct rfl (by exact Lies.box ag_38 rfl (.s (.s .z)) rfl) (by exact Lies.box ag_45 rfl (.s (.s (.s .z))) rfl) rfl (fun w hs => ⟨by clear hs; first | exact congrArg Ending.returned (stepV_1 g h f r o want n (by simpa using hb1)).symm | exact congrArg Ending.returned (stepV_2 g h f r o want n (by simpa using hb1) (by first | (simp_all; done) | (simp_all [inB]; try omega))).symm | exact congrArg Ending.returned (stepV_3 g h f r o want n q1 (by simp [inB]; omega)).symm, hs.keep⟩)
    · skip
      refine at_pure_g rfl rfl hb2 (pv_move rfl) rfl ?_
      refine at_does_g rfl rfl hb2 (does_val cal53 rfl rfl rfl (fun w hs => within_any _ _ _ w)) rfl (fun _ => ?_)
      refine at_pure_g rfl rfl hb2 (pv_not rfl) rfl ?_
      refine at_pure (pv_pick_f rfl hb2 rfl) rfl ?_
      refine at_pure (pv_assign rfl) rfl ?_
      refine at_nil ?_
      refine ex_go ?_
      refine cd_if rfl (fun hb3 => ?_) (fun hb3 => ?_)
      · skip
        refine cd_seq ?_
        refine cd_region ?_
        refine at_pure (pv_build rfl (bu_38_)) rfl ?_
        refine at_pure (pv_build rfl (bu_45_)) rfl ?_
        refine at_turns (by exact turns_store sz_38 rfl rfl .agg rfl rfl (.s (.s .z)) (.rep (.rep .done)) (.s (.s .z))) ?_
        refine at_turns (by exact turns_store sz_45 rfl rfl .agg rfl rfl (.s (.s (.s .z))) (.rep (.rep (.rep (.rep .done)))) (.s (.s (.s .z)))) ?_
        refine at_pure (pv_assign rfl) rfl ?_
        refine at_nil ?_
        refine ex_go ?_
        refine cd_ret ?_
        refine ex_in_ret (ex_then_ret ?_)
        exact end_cct rfl (by exact Lies.box ag_38 rfl (.s (.s .z)) rfl) (by exact Lies.box ag_45 rfl (.s (.s (.s .z))) rfl) rfl (fun w hs => ⟨by clear hs; first | exact congrArg Ending.returned (stepV_1 g h f r o want n (by simpa using hb1)).symm | exact congrArg Ending.returned (stepV_2 g h f r o want n (by simpa using hb1) (by first | (simp_all; done) | (simp_all [inB]; try omega))).symm | exact congrArg Ending.returned (stepV_3 g h f r o want n q1 (by simp [inB]; omega)).symm, hs.keep⟩)
      · skip
        refine cd_skip ?_
        refine ex_in_normal (ex_go ?_)
        refine cd_seq ?_
        have q1 : validE g h f r o = true := by simpa using hb1
        have q2 : 0 ≤ want ∧ want ≤ 262144 := by simpa [inB] using hb2
        have q3 : 16 ≤ n ∧ n ≤ 8192 := by simpa [inB] using hb3
        refine cd_region ?_
        refine at_pure (by exact pv_loads_box ag_38 rfl .z (.take (.take .done))) rfl ?_
        refine at_pure (by exact pv_loads_box ag_40 rfl (.s .z) (.take (.take (.take .done)))) rfl ?_
        refine at_pure (pv_move rfl) rfl ?_
        refine at_does (does_val cal54 rfl rfl rfl (fun w hs => step_next _ _ _ _ _ _ w q1 q2)) rfl (fun _ => ?_)
        refine at_does (does_alloc ze_38 .agg (fun _ => (.cons (.cons (.cons (.cons .nil)))))) rfl (fun g5 => ?_)
        refine at_turns (by exact turns_store sz_38 rfl rfl .agg rfl rfl (.s (.s (.s (.s .z)))) (.rep (.rep .done)) (.s (.s (.s (.s .z))))) ?_
        refine at_nil ?_
        refine ex_go ?_
        refine cd_seq ?_
        refine cd_draw 8 [Box g1 [.int .i64 g, .int .i64 h] 38, Box g2 [.int .i64 f, .int .i64 r, .int .i64 o] 40, Box g4 [.int .i64 0, .int .i64 0, .int .i64 0, .int .i64 0] 45, Box g5 [.int .i64 (nextG g h f r o want), .int .i64 (nextH g h f r o want)] 38] follows ?_
        refine dr_take 0 rfl (by kernel_rfl) (by first | exact List.Sublist.refl _ | (repeat first | exact List.Sublist.slnil | exact List.nil_sublist _ | apply List.Sublist.cons_cons | apply List.Sublist.cons)) (by exact pv_loads_box ag_38 rfl (.s (.s (.s .z))) (.take (.take .done))) rfl ?_
        refine dr_take 1 rfl (by kernel_rfl) (by first | exact List.Sublist.refl _ | (repeat first | exact List.Sublist.slnil | exact List.nil_sublist _ | apply List.Sublist.cons_cons | apply List.Sublist.cons)) (pv_field0 fa_38_0 rfl (r := 0) rfl) rfl ?_
        refine dr_take 2 rfl (by kernel_rfl) (by first | exact List.Sublist.refl _ | (repeat first | exact List.Sublist.slnil | exact List.nil_sublist _ | apply List.Sublist.cons_cons | apply List.Sublist.cons)) (by exact pv_load ld_3 rfl (box_cell .z .z)) rfl ?_
        refine dr_take 3 rfl (by kernel_rfl) (by first | exact List.Sublist.refl _ | (repeat first | exact List.Sublist.slnil | exact List.nil_sublist _ | apply List.Sublist.cons_cons | apply List.Sublist.cons)) (pv_field0 fa_38_0 rfl (r := 0) rfl) rfl ?_
        refine dr_take 4 rfl (by kernel_rfl) (by first | exact List.Sublist.refl _ | (repeat first | exact List.Sublist.slnil | exact List.nil_sublist _ | apply List.Sublist.cons_cons | apply List.Sublist.cons)) (by exact pv_load ld_3 rfl (box_cell (.s (.s (.s .z))) .z)) rfl ?_
        refine dr_take 5 rfl (by kernel_rfl) (by first | exact List.Sublist.refl _ | (repeat first | exact List.Sublist.slnil | exact List.nil_sublist _ | apply List.Sublist.cons_cons | apply List.Sublist.cons)) (pv_move rfl) rfl ?_
        refine dr_take 6 rfl (by kernel_rfl) (by first | exact List.Sublist.refl _ | (repeat first | exact List.Sublist.slnil | exact List.nil_sublist _ | apply List.Sublist.cons_cons | apply List.Sublist.cons)) (pv_build rfl (bu_45_0_1_2 _ _ _)) rfl ?_
        refine dr_one 7 (by kernel_rfl) rfl ?_
        refine at_turns (by exact turns_store sz_38 rfl rfl .agg rfl rfl (.s (.s .z)) (.rep (.rep .done)) (.s (.s .z))) ?_
        refine at_nil (dr_next (fun _ => (by first | exact List.Sublist.refl _ | (repeat first | exact List.Sublist.slnil | exact List.nil_sublist _ | apply List.Sublist.cons_cons | apply List.Sublist.cons))) ?_)
        refine dr_one 8 (by kernel_rfl) rfl ?_
        refine at_turns (by exact turns_store sz_45 rfl rfl .agg rfl rfl (.s (.s (.s .z))) (.rep (.rep (.rep (.rep .done)))) (.s (.s (.s .z)))) ?_
        refine at_nil (dr_next (fun h => by cases h) ?_)
        refine dr_one 9 (by kernel_rfl) rfl ?_
        refine at_pure (pv_assign rfl) rfl ?_
        refine at_nil (dr_next (fun h => by cases h) ?_)
        refine dr_done (by kernel_rfl) ?_
        refine ex_go ?_
        refine cd_ret ?_
        exact end_cct rfl (by exact Lies.box ag_38 rfl (.s (.s .z)) rfl) (by exact Lies.box ag_45 rfl (.s (.s (.s .z))) rfl) rfl (fun w hs => ⟨by clear hs; first | exact congrArg Ending.returned (stepV_1 g h f r o want n (by simpa using hb1)).symm | exact congrArg Ending.returned (stepV_2 g h f r o want n (by simpa using hb1) (by first | (simp_all; done) | (simp_all [inB]; try omega))).symm | exact congrArg Ending.returned (stepV_3 g h f r o want n q1 (by simp [inB]; omega)).symm, hs.keep⟩)

theorem step_ref (g h f r o want n : Int) (w : World) : Calls Try.prog 24 [.agg #[.int .i64 g, .int .i64 h], .agg #[.int .i64 f, .int .i64 r, .int .i64 o], .int .i64 want, .int .i64 n].toArray w (Val (stepV g h f r o want n) w) := by
  refine calls_body (n := 45) Try.func24 rfl rfl rfl (St.init _ []) ?_
  refine cd_seq ?_
  refine cd_region ?_
  refine at_does (does_box rfl .agg (fun _ => .nil)) rfl (fun g1 => ?_)
  refine at_does (does_box rfl .agg (fun _ => (.cons .nil))) rfl (fun g2 => ?_)
  refine at_does (does_alloc ze_38 .agg (fun _ => (.cons (.cons .nil)))) rfl (fun g3 => ?_)
  refine at_does (does_alloc ze_45 .agg (fun _ => (.cons (.cons (.cons .nil))))) rfl (fun g4 => ?_)
  refine at_pure (pv_assign rfl) rfl ?_
  refine at_nil ?_
  refine ex_go ?_
  refine cd_seq ?_
  refine cd_seq ?_
  refine cd_region ?_
  refine at_pure (by exact pv_loads_box ag_38 rfl .z (.take (.take .done))) rfl ?_
  refine at_pure (by exact pv_loads_box ag_40 rfl (.s .z) (.take (.take (.take .done)))) rfl ?_
  refine at_does (does_val cal22 rfl rfl rfl (fun w hs => valid_ref _ _ _ _ _ w)) rfl (fun _ => ?_)
  refine at_pure (pv_not rfl) rfl ?_
  refine at_nil ?_
  refine ex_go ?_
  refine cd_if rfl (fun hb1 => ?_) (fun hb1 => ?_)
  · skip
    refine cd_seq ?_
    refine cd_region ?_
    refine at_pure (pv_build rfl (bu_38_)) rfl ?_
    refine at_pure (pv_build rfl (bu_45_)) rfl ?_
    refine at_turns (by exact turns_store sz_38 rfl rfl .agg rfl rfl (.s (.s .z)) (.rep (.rep .done)) (.s (.s .z))) ?_
    refine at_turns (by exact turns_store sz_45 rfl rfl .agg rfl rfl (.s (.s (.s .z))) (.rep (.rep (.rep (.rep .done)))) (.s (.s (.s .z)))) ?_
    refine at_pure (pv_assign rfl) rfl ?_
    refine at_nil ?_
    refine ex_go ?_
    refine cd_ret ?_
    refine ex_then_ret ?_
    exact end_cct rfl (by exact Lies.box ag_38 rfl (.s (.s .z)) rfl) (by exact Lies.box ag_45 rfl (.s (.s (.s .z))) rfl) rfl (fun w hs => ⟨by clear hs; first | exact congrArg Ending.returned (stepV_1 g h f r o want n (by simpa using hb1)).symm | exact congrArg Ending.returned (stepV_2 g h f r o want n (by simpa using hb1) (by first | (simp_all; done) | (simp_all [inB]; try omega))).symm | exact congrArg Ending.returned (stepV_3 g h f r o want n q1 (by simp [inB]; omega)).symm, hs.keep⟩)
  · skip
    refine cd_skip ?_
    refine ex_go ?_
    refine cd_seq ?_
    refine cd_seq ?_
    refine cd_region ?_
    refine at_pure (pv_move rfl) rfl ?_
    refine at_pure (pv_lss rfl rfl) rfl ?_
    refine at_pure (pv_move rfl) rfl ?_
    refine at_split 20 rfl (fun hb2 => ?_) (fun hb2 => ?_)
    · skip
      refine at_skip rfl rfl hb2 rfl ?_
      refine at_skip rfl rfl hb2 rfl ?_
      refine at_pure (pv_pick_t rfl hb2 rfl) rfl ?_
      refine at_pure (pv_move rfl) rfl ?_
      refine at_skip rfl rfl rfl rfl ?_
      refine at_skip rfl rfl rfl rfl ?_
      refine at_pure (pv_pick_t rfl rfl rfl) rfl ?_
      refine at_pure (pv_move rfl) rfl ?_
      refine at_skip rfl rfl rfl rfl ?_
      refine at_skip rfl rfl rfl rfl ?_
      refine at_pure (pv_pick_t rfl rfl rfl) rfl ?_
      refine at_nil ?_
      refine ex_go ?_
      refine cd_then rfl rfl ?_
      refine cd_seq ?_
      refine cd_region ?_
      refine at_pure (pv_build rfl (bu_38_)) rfl ?_
      refine at_pure (pv_build rfl (bu_45_)) rfl ?_
      refine at_turns (by exact turns_store sz_38 rfl rfl .agg rfl rfl (.s (.s .z)) (.rep (.rep .done)) (.s (.s .z))) ?_
      refine at_turns (by exact turns_store sz_45 rfl rfl .agg rfl rfl (.s (.s (.s .z))) (.rep (.rep (.rep (.rep .done)))) (.s (.s (.s .z)))) ?_
      refine at_pure (pv_assign rfl) rfl ?_
      refine at_nil ?_
      refine ex_go ?_
      refine cd_ret ?_
      refine ex_then_ret ?_
      exact end_cct rfl (by exact Lies.box ag_38 rfl (.s (.s .z)) rfl) (by exact Lies.box ag_45 rfl (.s (.s (.s .z))) rfl) rfl (fun w hs => ⟨by clear hs; first | exact congrArg Ending.returned (stepV_1 g h f r o want n (by simpa using hb1)).symm | exact congrArg Ending.returned (stepV_2 g h f r o want n (by simpa using hb1) (by first | (simp_all; done) | (simp_all [inB]; try omega))).symm | exact congrArg Ending.returned (stepV_3 g h f r o want n q1 (by simp [inB]; omega)).symm, hs.keep⟩)
    · skip
      refine at_pure_g rfl rfl hb2 (pv_move rfl) rfl ?_
      refine at_pure_g rfl rfl hb2 (pv_gtr rfl rfl) rfl ?_
      refine at_pure (pv_pick_f rfl hb2 rfl) rfl ?_
      refine at_pure (pv_move rfl) rfl ?_
      refine at_split 24 rfl (fun hb3 => ?_) (fun hb3 => ?_)
      · skip
        refine at_skip rfl rfl hb3 rfl ?_
        refine at_skip rfl rfl hb3 rfl ?_
        refine at_pure (pv_pick_t rfl hb3 rfl) rfl ?_
        refine at_pure (pv_move rfl) rfl ?_
        refine at_skip rfl rfl rfl rfl ?_
        refine at_skip rfl rfl rfl rfl ?_
        refine at_pure (pv_pick_t rfl rfl rfl) rfl ?_
        refine at_nil ?_
        refine ex_go ?_
        refine cd_then rfl rfl ?_
        refine cd_seq ?_
        refine cd_region ?_
        refine at_pure (pv_build rfl (bu_38_)) rfl ?_
        refine at_pure (pv_build rfl (bu_45_)) rfl ?_
        refine at_turns (by exact turns_store sz_38 rfl rfl .agg rfl rfl (.s (.s .z)) (.rep (.rep .done)) (.s (.s .z))) ?_
        refine at_turns (by exact turns_store sz_45 rfl rfl .agg rfl rfl (.s (.s (.s .z))) (.rep (.rep (.rep (.rep .done)))) (.s (.s (.s .z)))) ?_
        refine at_pure (pv_assign rfl) rfl ?_
        refine at_nil ?_
        refine ex_go ?_
        refine cd_ret ?_
        refine ex_then_ret ?_
        exact end_cct rfl (by exact Lies.box ag_38 rfl (.s (.s .z)) rfl) (by exact Lies.box ag_45 rfl (.s (.s (.s .z))) rfl) rfl (fun w hs => ⟨by clear hs; first | exact congrArg Ending.returned (stepV_1 g h f r o want n (by simpa using hb1)).symm | exact congrArg Ending.returned (stepV_2 g h f r o want n (by simpa using hb1) (by first | (simp_all; done) | (simp_all [inB]; try omega))).symm | exact congrArg Ending.returned (stepV_3 g h f r o want n q1 (by simp [inB]; omega)).symm, hs.keep⟩)
      · skip
        refine at_pure_g rfl rfl hb3 (pv_move rfl) rfl ?_
        refine at_pure_g rfl rfl hb3 (pv_lss rfl rfl) rfl ?_
        refine at_pure (pv_pick_f rfl hb3 rfl) rfl ?_
        refine at_pure (pv_move rfl) rfl ?_
        refine at_split 28 rfl (fun hb4 => ?_) (fun hb4 => ?_)
        · skip
          refine at_skip rfl rfl hb4 rfl ?_
          refine at_skip rfl rfl hb4 rfl ?_
          refine at_pure (pv_pick_t rfl hb4 rfl) rfl ?_
          refine at_nil ?_
          refine ex_go ?_
          refine cd_then rfl rfl ?_
          refine cd_seq ?_
          refine cd_region ?_
          refine at_pure (pv_build rfl (bu_38_)) rfl ?_
          refine at_pure (pv_build rfl (bu_45_)) rfl ?_
          refine at_turns (by exact turns_store sz_38 rfl rfl .agg rfl rfl (.s (.s .z)) (.rep (.rep .done)) (.s (.s .z))) ?_
          refine at_turns (by exact turns_store sz_45 rfl rfl .agg rfl rfl (.s (.s (.s .z))) (.rep (.rep (.rep (.rep .done)))) (.s (.s (.s .z)))) ?_
          refine at_pure (pv_assign rfl) rfl ?_
          refine at_nil ?_
          refine ex_go ?_
          refine cd_ret ?_
          refine ex_then_ret ?_
          exact end_cct rfl (by exact Lies.box ag_38 rfl (.s (.s .z)) rfl) (by exact Lies.box ag_45 rfl (.s (.s (.s .z))) rfl) rfl (fun w hs => ⟨by clear hs; first | exact congrArg Ending.returned (stepV_1 g h f r o want n (by simpa using hb1)).symm | exact congrArg Ending.returned (stepV_2 g h f r o want n (by simpa using hb1) (by first | (simp_all; done) | (simp_all [inB]; try omega))).symm | exact congrArg Ending.returned (stepV_3 g h f r o want n q1 (by simp [inB]; omega)).symm, hs.keep⟩)
        · skip
          refine at_pure_g rfl rfl hb4 (pv_move rfl) rfl ?_
          refine at_pure_g rfl rfl hb4 (pv_gtr rfl rfl) rfl ?_
          refine at_pure (pv_pick_f rfl hb4 rfl) rfl ?_
          refine at_nil ?_
          refine ex_go ?_
          refine cd_if rfl (fun hb5 => ?_) (fun hb5 => ?_)
          · skip
            refine cd_seq ?_
            refine cd_region ?_
            refine at_pure (pv_build rfl (bu_38_)) rfl ?_
            refine at_pure (pv_build rfl (bu_45_)) rfl ?_
            refine at_turns (by exact turns_store sz_38 rfl rfl .agg rfl rfl (.s (.s .z)) (.rep (.rep .done)) (.s (.s .z))) ?_
            refine at_turns (by exact turns_store sz_45 rfl rfl .agg rfl rfl (.s (.s (.s .z))) (.rep (.rep (.rep (.rep .done)))) (.s (.s (.s .z)))) ?_
            refine at_pure (pv_assign rfl) rfl ?_
            refine at_nil ?_
            refine ex_go ?_
            refine cd_ret ?_
            refine ex_then_ret ?_
            exact end_cct rfl (by exact Lies.box ag_38 rfl (.s (.s .z)) rfl) (by exact Lies.box ag_45 rfl (.s (.s (.s .z))) rfl) rfl (fun w hs => ⟨by clear hs; first | exact congrArg Ending.returned (stepV_1 g h f r o want n (by simpa using hb1)).symm | exact congrArg Ending.returned (stepV_2 g h f r o want n (by simpa using hb1) (by first | (simp_all; done) | (simp_all [inB]; try omega))).symm | exact congrArg Ending.returned (stepV_3 g h f r o want n q1 (by simp [inB]; omega)).symm, hs.keep⟩)
          · skip
            refine cd_skip ?_
            refine ex_go ?_
            refine cd_seq ?_
            have q1 : validE g h f r o = true := by simpa using hb1
            have q2 : 0 ≤ want ∧ want ≤ 262144 := by simp at hb2 hb3; omega
            have q3 : 16 ≤ n ∧ n ≤ 8192 := by simp at hb4 hb5; omega
            refine cd_region ?_
            refine at_pure (by exact pv_loads_box ag_38 rfl .z (.take (.take .done))) rfl ?_
            refine at_pure (by exact pv_loads_box ag_40 rfl (.s .z) (.take (.take (.take .done)))) rfl ?_
            refine at_pure (pv_move rfl) rfl ?_
            refine at_does (does_val cal55 rfl rfl rfl (fun w hs => step_moved _ _ _ _ _ _ w q1 q2)) rfl (fun _ => ?_)
            refine at_does (does_alloc ze_38 .agg (fun _ => (.cons (.cons (.cons (.cons .nil)))))) rfl (fun g5 => ?_)
            refine at_turns (by exact turns_store sz_38 rfl rfl .agg rfl rfl (.s (.s (.s (.s .z)))) (.rep (.rep .done)) (.s (.s (.s (.s .z))))) ?_
            refine at_nil ?_
            refine ex_go ?_
            refine cd_seq ?_
            refine cd_draw 8 [Box g1 [.int .i64 g, .int .i64 h] 38, Box g2 [.int .i64 f, .int .i64 r, .int .i64 o] 40, Box g4 [.int .i64 0, .int .i64 0, .int .i64 0, .int .i64 0] 45, Box g5 [.int .i64 (nextG g h f r o want), .int .i64 (nextH g h f r o want)] 38] follows ?_
            refine dr_take 0 rfl (by kernel_rfl) (by first | exact List.Sublist.refl _ | (repeat first | exact List.Sublist.slnil | exact List.nil_sublist _ | apply List.Sublist.cons_cons | apply List.Sublist.cons)) (by exact pv_loads_box ag_38 rfl (.s (.s (.s .z))) (.take (.take .done))) rfl ?_
            refine dr_take 1 rfl (by kernel_rfl) (by first | exact List.Sublist.refl _ | (repeat first | exact List.Sublist.slnil | exact List.nil_sublist _ | apply List.Sublist.cons_cons | apply List.Sublist.cons)) (pv_field0 fa_38_0 rfl (r := 0) rfl) rfl ?_
            refine dr_take 2 rfl (by kernel_rfl) (by first | exact List.Sublist.refl _ | (repeat first | exact List.Sublist.slnil | exact List.nil_sublist _ | apply List.Sublist.cons_cons | apply List.Sublist.cons)) (by exact pv_load ld_3 rfl (box_cell .z .z)) rfl ?_
            refine dr_take 3 rfl (by kernel_rfl) (by first | exact List.Sublist.refl _ | (repeat first | exact List.Sublist.slnil | exact List.nil_sublist _ | apply List.Sublist.cons_cons | apply List.Sublist.cons)) (pv_field0 fa_38_0 rfl (r := 0) rfl) rfl ?_
            refine dr_take 4 rfl (by kernel_rfl) (by first | exact List.Sublist.refl _ | (repeat first | exact List.Sublist.slnil | exact List.nil_sublist _ | apply List.Sublist.cons_cons | apply List.Sublist.cons)) (by exact pv_load ld_3 rfl (box_cell (.s (.s (.s .z))) .z)) rfl ?_
            refine dr_take 5 rfl (by kernel_rfl) (by first | exact List.Sublist.refl _ | (repeat first | exact List.Sublist.slnil | exact List.nil_sublist _ | apply List.Sublist.cons_cons | apply List.Sublist.cons)) (pv_move rfl) rfl ?_
            refine dr_take 6 rfl (by kernel_rfl) (by first | exact List.Sublist.refl _ | (repeat first | exact List.Sublist.slnil | exact List.nil_sublist _ | apply List.Sublist.cons_cons | apply List.Sublist.cons)) (pv_build rfl (bu_45_0_1_2 _ _ _)) rfl ?_
            refine dr_one 7 (by kernel_rfl) rfl ?_
            refine at_turns (by exact turns_store sz_38 rfl rfl .agg rfl rfl (.s (.s .z)) (.rep (.rep .done)) (.s (.s .z))) ?_
            refine at_nil (dr_next (fun _ => (by first | exact List.Sublist.refl _ | (repeat first | exact List.Sublist.slnil | exact List.nil_sublist _ | apply List.Sublist.cons_cons | apply List.Sublist.cons))) ?_)
            refine dr_one 8 (by kernel_rfl) rfl ?_
            refine at_turns (by exact turns_store sz_45 rfl rfl .agg rfl rfl (.s (.s (.s .z))) (.rep (.rep (.rep (.rep .done)))) (.s (.s (.s .z)))) ?_
            refine at_nil (dr_next (fun h => by cases h) ?_)
            refine dr_one 9 (by kernel_rfl) rfl ?_
            refine at_pure (pv_assign rfl) rfl ?_
            refine at_nil (dr_next (fun h => by cases h) ?_)
            refine dr_done (by kernel_rfl) ?_
            refine ex_go ?_
            refine cd_ret ?_
            exact end_cct rfl (by exact Lies.box ag_38 rfl (.s (.s .z)) rfl) (by exact Lies.box ag_45 rfl (.s (.s (.s .z))) rfl) rfl (fun w hs => ⟨by clear hs; first | exact congrArg Ending.returned (stepV_1 g h f r o want n (by simpa using hb1)).symm | exact congrArg Ending.returned (stepV_2 g h f r o want n (by simpa using hb1) (by first | (simp_all; done) | (simp_all [inB]; try omega))).symm | exact congrArg Ending.returned (stepV_3 g h f r o want n q1 (by simp [inB]; omega)).symm, hs.keep⟩)

def quantaI (g h f r o want : Int) : Int := if validE g h f r o = true ∧ 0 ≤ want ∧ want ≤ 262144 ∧ want ≠ g then (if want < g then (g - want + f - 1) / f else h + (want - g + r - 1) / r) else 0

theorem steps_any (x y : Int) (w : World) (hx : 0 ≤ x ∧ x ≤ 262144) (hy : 1 ≤ y ∧ y ≤ 262144) : Calls Try.prog 56 [.int .i64 x, .int .i64 y].toArray w (Val (.int .i64 ((x + y - 1) / y)) w) := by
  refine calls_body (n := 11) Try.func56 rfl rfl rfl (St.init _ []) ?_
  refine cd_seq ?_
  refine cd_region ?_
  refine at_pure (pv_assign rfl) rfl ?_
  refine at_nil ?_
  refine ex_go ?_
  refine cd_seq ?_
  refine cd_region ?_
  refine at_pure (pv_move rfl) rfl ?_
  refine at_pure (pv_move rfl) rfl ?_
  refine at_pure (by first | exact pv_add_n rfl rfl (by unfold In64; omega) | exact pv_add rfl rfl) rfl ?_
  refine at_pure (by first | exact pv_sub_n rfl rfl (by unfold In64; omega) | exact pv_sub rfl rfl) rfl ?_
  refine at_pure (pv_move rfl) rfl ?_
  refine at_pure (by first | exact pv_quo_n rfl rfl (by omega) | exact pv_quo rfl rfl (by first | decide | omega)) rfl ?_
  refine at_pure (pv_assign rfl) rfl ?_
  refine at_nil ?_
  refine ex_go ?_
  refine cd_ret ?_
  exact end_ret1 rfl rfl (fun w hs => Val.mk hs)

theorem quanta_any (g h f r o want : Int) (w : World) : Calls Try.prog 25 [.agg #[.int .i64 g, .int .i64 h], .agg #[.int .i64 f, .int .i64 r, .int .i64 o], .int .i64 want].toArray w (Val (.int .i64 (quantaI g h f r o want)) w) := by
  refine calls_body (n := 45) Try.func25 rfl rfl rfl (St.init _ []) ?_
  refine cd_seq ?_
  refine cd_region ?_
  refine at_does (does_box rfl .agg (fun _ => .nil)) rfl (fun g1 => ?_)
  refine at_does (does_box rfl .agg (fun _ => (.cons .nil))) rfl (fun g2 => ?_)
  refine at_pure (pv_assign rfl) rfl ?_
  refine at_nil ?_
  refine ex_go ?_
  refine cd_seq ?_
  refine cd_block ?_
  refine cd_seq ?_
  refine cd_region ?_
  refine at_pure (by exact pv_loads_box ag_38 rfl .z (.take (.take .done))) rfl ?_
  refine at_pure (by exact pv_loads_box ag_40 rfl (.s .z) (.take (.take (.take .done)))) rfl ?_
  refine at_does (does_val cal21 rfl rfl rfl (fun w hs => valid_any _ _ _ _ _ w)) rfl (fun _ => ?_)
  refine at_pure (pv_not rfl) rfl ?_
  refine at_pure (pv_move rfl) rfl ?_
  refine at_split 12 rfl (fun hb1 => ?_) (fun hb1 => ?_)
  · skip
    refine at_skip rfl rfl hb1 rfl ?_
    refine at_skip rfl rfl hb1 rfl ?_
    refine at_skip rfl rfl hb1 rfl ?_
    refine at_pure (pv_pick_t rfl hb1 rfl) rfl ?_
    refine at_pure (pv_move rfl) rfl ?_
    refine at_skip rfl rfl rfl rfl ?_
    refine at_skip rfl rfl rfl rfl ?_
    refine at_skip rfl rfl rfl rfl ?_
    refine at_skip rfl rfl rfl rfl ?_
    refine at_pure (pv_pick_t rfl rfl rfl) rfl ?_
    refine at_pure (pv_assign rfl) rfl ?_
    refine at_nil ?_
    refine ex_go ?_
    refine cd_then rfl rfl ?_
    refine cd_seq ?_
    refine cd_region ?_
    refine at_pure (pv_assign rfl) rfl ?_
    refine at_nil ?_
    refine ex_go ?_
    refine cd_ret ?_
    refine ex_in_ret (ex_then_ret ?_)
    exact end_ret1 rfl rfl (fun w hs => ⟨by clear hs; refine congrArg (fun b => Ending.returned (.int .i64 b)) ?_; unfold quantaI; first | (rw [if_pos ⟨q1, q2.1, q2.2, q3⟩, if_pos (by simpa using hb4)]; done) | (rw [if_pos ⟨q1, q2.1, q2.2, q3⟩, if_neg (by simpa using hb4)]; done) | (rw [if_neg (by intro z; simp_all [inB])]; done) | (rw [if_neg (by intro z; simp_all [inB]; omega)]; done), hs.keep⟩)
  · skip
    refine at_pure_g rfl rfl hb1 (pv_move rfl) rfl ?_
    refine at_does_g rfl rfl hb1 (does_val cal53 rfl rfl rfl (fun w hs => within_any _ _ _ w)) rfl (fun _ => ?_)
    refine at_pure_g rfl rfl hb1 (pv_not rfl) rfl ?_
    refine at_pure (pv_pick_f rfl hb1 rfl) rfl ?_
    refine at_pure (pv_move rfl) rfl ?_
    refine at_split 17 rfl (fun hb2 => ?_) (fun hb2 => ?_)
    · skip
      refine at_skip rfl rfl hb2 rfl ?_
      refine at_skip rfl rfl hb2 rfl ?_
      refine at_skip rfl rfl hb2 rfl ?_
      refine at_skip rfl rfl hb2 rfl ?_
      refine at_pure (pv_pick_t rfl hb2 rfl) rfl ?_
      refine at_pure (pv_assign rfl) rfl ?_
      refine at_nil ?_
      refine ex_go ?_
      refine cd_then rfl rfl ?_
      refine cd_seq ?_
      refine cd_region ?_
      refine at_pure (pv_assign rfl) rfl ?_
      refine at_nil ?_
      refine ex_go ?_
      refine cd_ret ?_
      refine ex_in_ret (ex_then_ret ?_)
      exact end_ret1 rfl rfl (fun w hs => ⟨by clear hs; refine congrArg (fun b => Ending.returned (.int .i64 b)) ?_; unfold quantaI; first | (rw [if_pos ⟨q1, q2.1, q2.2, q3⟩, if_pos (by simpa using hb4)]; done) | (rw [if_pos ⟨q1, q2.1, q2.2, q3⟩, if_neg (by simpa using hb4)]; done) | (rw [if_neg (by intro z; simp_all [inB])]; done) | (rw [if_neg (by intro z; simp_all [inB]; omega)]; done), hs.keep⟩)
    · skip
      refine at_pure_g rfl rfl hb2 (pv_move rfl) rfl ?_
      refine at_pure_g rfl rfl hb2 (pv_field0 fa_38_0 rfl (r := 0) rfl) rfl ?_
      refine at_pure_g rfl rfl hb2 (by exact pv_load ld_3 rfl (box_cell .z .z)) rfl ?_
      refine at_pure_g rfl rfl hb2 (pv_eql rfl rfl) rfl ?_
      refine at_pure (pv_pick_f rfl hb2 rfl) rfl ?_
      refine at_pure (pv_assign rfl) rfl ?_
      refine at_nil ?_
      refine ex_go ?_
      refine cd_if rfl (fun hb3 => ?_) (fun hb3 => ?_)
      · skip
        refine cd_seq ?_
        refine cd_region ?_
        refine at_pure (pv_assign rfl) rfl ?_
        refine at_nil ?_
        refine ex_go ?_
        refine cd_ret ?_
        refine ex_in_ret (ex_then_ret ?_)
        exact end_ret1 rfl rfl (fun w hs => ⟨by clear hs; refine congrArg (fun b => Ending.returned (.int .i64 b)) ?_; unfold quantaI; first | (rw [if_pos ⟨q1, q2.1, q2.2, q3⟩, if_pos (by simpa using hb4)]; done) | (rw [if_pos ⟨q1, q2.1, q2.2, q3⟩, if_neg (by simpa using hb4)]; done) | (rw [if_neg (by intro z; simp_all [inB])]; done) | (rw [if_neg (by intro z; simp_all [inB]; omega)]; done), hs.keep⟩)
      · skip
        refine cd_seq ?_
        have q1 : validE g h f r o = true := by simpa using hb1
        have q1' := (validE_iff g h f r o).1 q1
        have q2 : 0 ≤ want ∧ want ≤ 262144 := by simpa [inB] using hb2
        have q3 : want ≠ g := by simpa using hb3
        refine cd_region ?_
        refine at_pure (pv_move rfl) rfl ?_
        refine at_pure (pv_field0 fa_38_0 rfl (r := 0) rfl) rfl ?_
        refine at_pure (by exact pv_load ld_3 rfl (box_cell .z .z)) rfl ?_
        refine at_pure (pv_lss rfl rfl) rfl ?_
        refine at_pure (pv_assign rfl) rfl ?_
        refine at_nil ?_
        refine ex_go ?_
        refine cd_if rfl (fun hb4 => ?_) (fun hb4 => ?_)
        · skip
          refine cd_seq ?_
          have q4 : want < g := by simpa using hb4
          refine cd_region ?_
          refine at_pure (pv_field0 fa_38_0 rfl (r := 0) rfl) rfl ?_
          refine at_pure (by exact pv_load ld_3 rfl (box_cell .z .z)) rfl ?_
          refine at_pure (pv_move rfl) rfl ?_
          refine at_pure (by first | exact pv_sub_n rfl rfl (by unfold In64; omega) | exact pv_sub rfl rfl) rfl ?_
          refine at_pure (pv_field0 fa_40_0 rfl (r := 0) rfl) rfl ?_
          refine at_pure (by exact pv_load ld_3 rfl (box_cell (.s .z) .z)) rfl ?_
          refine at_does (does_val cal56 rfl rfl rfl (fun w hs => steps_any _ _ w (by omega) (by omega))) rfl (fun _ => ?_)
          refine at_pure (pv_assign rfl) rfl ?_
          refine at_nil ?_
          refine ex_go ?_
          refine cd_ret ?_
          refine ex_in_ret (ex_then_ret ?_)
          exact end_ret1 rfl rfl (fun w hs => ⟨by clear hs; refine congrArg (fun b => Ending.returned (.int .i64 b)) ?_; unfold quantaI; first | (rw [if_pos ⟨q1, q2.1, q2.2, q3⟩, if_pos (by simpa using hb4)]; done) | (rw [if_pos ⟨q1, q2.1, q2.2, q3⟩, if_neg (by simpa using hb4)]; done) | (rw [if_neg (by intro z; simp_all [inB])]; done) | (rw [if_neg (by intro z; simp_all [inB]; omega)]; done), hs.keep⟩)
        · skip
          refine cd_skip ?_
          refine ex_in_normal (ex_go ?_)
          refine cd_seq ?_
          have q4 : ¬ want < g := by simpa using hb4
          have q6 := Int.ediv_le_self (a := want - g + r - 1) r (by omega)
          have q7 := Int.ediv_nonneg (a := want - g + r - 1) (b := r) (by omega) (by omega)
          refine cd_draw' 10 follows ?_
          refine dr_take 0 rfl (by kernel_rfl) (by first | exact List.Sublist.refl _ | (repeat first | exact List.Sublist.slnil | exact List.nil_sublist _ | apply List.Sublist.cons_cons | apply List.Sublist.cons)) (pv_field0 fa_38_1 rfl (r := 1) rfl) rfl ?_
          refine dr_take 1 rfl (by kernel_rfl) (by first | exact List.Sublist.refl _ | (repeat first | exact List.Sublist.slnil | exact List.nil_sublist _ | apply List.Sublist.cons_cons | apply List.Sublist.cons)) (by exact pv_load ld_3 rfl (box_cell .z (.s .z))) rfl ?_
          refine dr_take 2 rfl (by kernel_rfl) (by first | exact List.Sublist.refl _ | (repeat first | exact List.Sublist.slnil | exact List.nil_sublist _ | apply List.Sublist.cons_cons | apply List.Sublist.cons)) (pv_move rfl) rfl ?_
          refine dr_take 3 rfl (by kernel_rfl) (by first | exact List.Sublist.refl _ | (repeat first | exact List.Sublist.slnil | exact List.nil_sublist _ | apply List.Sublist.cons_cons | apply List.Sublist.cons)) (pv_field0 fa_38_0 rfl (r := 0) rfl) rfl ?_
          refine dr_take 4 rfl (by kernel_rfl) (by first | exact List.Sublist.refl _ | (repeat first | exact List.Sublist.slnil | exact List.nil_sublist _ | apply List.Sublist.cons_cons | apply List.Sublist.cons)) (by exact pv_load ld_3 rfl (box_cell .z .z)) rfl ?_
          refine dr_take 5 rfl (by kernel_rfl) (by first | exact List.Sublist.refl _ | (repeat first | exact List.Sublist.slnil | exact List.nil_sublist _ | apply List.Sublist.cons_cons | apply List.Sublist.cons)) (by first | exact pv_sub_n rfl rfl (by unfold In64; omega) | exact pv_sub rfl rfl) rfl ?_
          refine dr_take 6 rfl (by kernel_rfl) (by first | exact List.Sublist.refl _ | (repeat first | exact List.Sublist.slnil | exact List.nil_sublist _ | apply List.Sublist.cons_cons | apply List.Sublist.cons)) (pv_field0 fa_40_1 rfl (r := 1) rfl) rfl ?_
          refine dr_take 7 rfl (by kernel_rfl) (by first | exact List.Sublist.refl _ | (repeat first | exact List.Sublist.slnil | exact List.nil_sublist _ | apply List.Sublist.cons_cons | apply List.Sublist.cons)) (by exact pv_load ld_3 rfl (box_cell (.s .z) (.s .z))) rfl ?_
          refine dr_one 8 (by kernel_rfl) rfl ?_
          refine at_does (does_val cal56 rfl rfl rfl (fun w hs => steps_any _ _ w (by omega) (by omega))) rfl (fun _ => ?_)
          refine at_nil (dr_next (fun _ => (by first | exact List.Sublist.refl _ | (repeat first | exact List.Sublist.slnil | exact List.nil_sublist _ | apply List.Sublist.cons_cons | apply List.Sublist.cons))) ?_)
          refine dr_take 9 rfl (by kernel_rfl) (by first | exact List.Sublist.refl _ | (repeat first | exact List.Sublist.slnil | exact List.nil_sublist _ | apply List.Sublist.cons_cons | apply List.Sublist.cons)) (by first | exact pv_add_n rfl rfl (by unfold In64; omega) | exact pv_add rfl rfl) rfl ?_
          refine dr_one 10 (by kernel_rfl) rfl ?_
          refine at_pure (pv_assign rfl) rfl ?_
          refine at_nil (dr_next (fun h => by cases h) ?_)
          refine dr_done (by kernel_rfl) ?_
          refine ex_go ?_
          refine cd_ret ?_
          exact end_ret1 rfl rfl (fun w hs => ⟨by clear hs; refine congrArg (fun b => Ending.returned (.int .i64 b)) ?_; unfold quantaI; first | (rw [if_pos ⟨q1, q2.1, q2.2, q3⟩, if_pos (by simpa using hb4)]; done) | (rw [if_pos ⟨q1, q2.1, q2.2, q3⟩, if_neg (by simpa using hb4)]; done) | (rw [if_neg (by intro z; simp_all [inB])]; done) | (rw [if_neg (by intro z; simp_all [inB]; omega)]; done), hs.keep⟩)

def MadeOk (z : Int × Int × Int × Int × Int) : Prop := 0 ≤ z.1 ∧ z.1 ≤ 262144 ∧ 0 ≤ z.2.1 ∧ z.2.1 ≤ z.2.2.2.2 ∧ 1 ≤ z.2.2.1 ∧ z.2.2.1 ≤ 262144 ∧ 1 ≤ z.2.2.2.1 ∧ z.2.2.2.1 ≤ 90000 ∧ z.2.2.2.2 ≤ 5

theorem made_any (a : Option Addr) (len cap : Nat) (w : World) (hI : Ints [] w a len) (hl : len ≤ 17592186044416) : Calls Try.prog 20 [.slice a len cap].toArray w (Some' (fun z : Int × Int × Int × Int × Int => .tuple #[.agg #[.int .i64 z.1, .int .i64 z.2.1], .agg #[.int .i64 z.2.2.1, .int .i64 z.2.2.2.1, .int .i64 z.2.2.2.2]]) MadeOk w) := by
  refine calls_body (n := 30) Try.func20 rfl rfl rfl (St.init _ []) ?_
  refine cd_seq ?_
  refine cd_region ?_
  refine at_does (does_alloc ze_38 .agg (fun _ => .nil)) rfl (fun g1 => ?_)
  refine at_does (does_alloc ze_40 .agg (fun _ => (.cons .nil))) rfl (fun g2 => ?_)
  refine at_nil ?_
  refine ex_go ?_
  refine cd_seq ?_
  refine cd_region ?_
  refine at_pure (pv_move rfl) rfl ?_
  refine at_does (does_gives (X := Nat) (val := fun g => Value.pointer (some ⟨g, 0, none⟩)) (Δ := fun g => [Box g [.slice a len cap, .int .i64 0] 75]) cal43 rfl rfl (args := [.slice a len cap]) rfl (fun w hs => new_any a len cap w) (fun _ => .cons (.cons .nil))) rfl (fun gd => ?_)
  refine at_pure (pv_assign rfl) rfl ?_
  refine at_nil ?_
  refine ex_go ?_
  refine cd_seq ?_
  refine cd_region ?_
  refine at_pure (pv_move rfl) rfl ?_
  refine at_hand (does_hand cal52 rfl rfl rfl (.s (.s .z)) (fun w hs => range_any gd a len cap 0 1 262144 w (hs.box (i := 2) rfl) (hI.beside hs (.s (.s .z))) (by omega) hl (by omega)) (fun _ => (.s (.s .z)))) rfl (fun x1 p1 hx1 => ?_)
  obtain ⟨h1a, h1b, h1c, h1d⟩ := hx1
  refine at_pure (pv_move rfl) rfl ?_
  refine at_hand (does_hand cal52 rfl rfl rfl (.s (.s .z)) (fun w hs => range_any gd a len cap p1 1 90000 w (hs.box (i := 2) rfl) (hI.beside hs (.s (.s .z))) (by omega) hl (by omega)) (fun _ => (.s (.s .z)))) rfl (fun x2 p2 hx2 => ?_)
  obtain ⟨h2a, h2b, h2c, h2d⟩ := hx2
  refine at_pure (pv_move rfl) rfl ?_
  refine at_hand (does_hand cal45 rfl rfl rfl (.s (.s .z)) (fun w hs => next_any gd a len cap p2 (6) w (hs.box (i := 2) rfl) (hI.beside hs (.s (.s .z))) (by omega) hl (by omega)) (fun _ => (.s (.s .z)))) rfl (fun x3 p3 hx3 => ?_)
  obtain ⟨h3a, h3b, h3c, h3d⟩ := hx3
  refine at_pure (pv_build rfl (bu_40_0_1_2 _ _ _)) rfl ?_
  refine at_does (does_alloc ze_40 .agg (fun _ => (.cons (.cons (.cons .nil))))) rfl (fun g3 => ?_)
  refine at_turns (by exact turns_store sz_40 rfl rfl .agg rfl rfl (.s (.s (.s .z))) (.rep (.rep (.rep .done))) (.s (.s (.s .z)))) ?_
  refine at_nil ?_
  refine ex_go ?_
  refine cd_cut (σ := Int × Int) (fun _ => [(2, Value.pointer (some ⟨g1, 0, none⟩)), (3, Value.pointer (some ⟨g2, 0, none⟩)), (4, Value.pointer (some ⟨gd, 0, none⟩)), (5, Value.pointer (some ⟨g3, 0, none⟩))]) (fun s => [Box g1 [.int .i64 0, .int .i64 0] 38, Box g2 [.int .i64 0, .int .i64 0, .int .i64 0] 40, Box gd [.slice a len cap, .int .i64 s.2] 75, Box g3 [.int .i64 s.1, .int .i64 x2, .int .i64 x3] 40]) (fun s => 1 ≤ s.1 ∧ s.1 ≤ 262144 ∧ 0 ≤ s.2 ∧ s.2 ≤ len) ?_ ?_
  · skip
    refine cd_seq ?_
    refine cd_region ?_
    refine at_pure (pv_move rfl) rfl ?_
    refine at_hand (does_hand cal45 rfl rfl rfl (.s (.s .z)) (fun w hs => next_any gd a len cap p3 (3) w (hs.box (i := 2) rfl) (hI.beside hs (.s (.s .z))) (by omega) hl (by omega)) (fun _ => (.s (.s .z)))) rfl (fun x4 p4 hx4 => ?_)
    obtain ⟨h4a, h4b, h4c, h4d⟩ := hx4
    refine at_pure (pv_eql rfl rfl) rfl ?_
    refine at_nil ?_
    refine ex_go ?_
    refine cd_if rfl (fun hb1 => ?_) (fun hb1 => ?_)
    · skip
      refine cd_region ?_
      refine at_pure (pv_move rfl) rfl ?_
      refine at_hand (does_hand cal52 rfl rfl rfl (.s (.s .z)) (fun w hs => range_any gd a len cap p4 1 3000 w (hs.box (i := 2) rfl) (hI.beside hs (.s (.s .z))) (by omega) hl (by omega)) (fun _ => (.s (.s .z)))) rfl (fun x5 p5 hx5 => ?_)
      obtain ⟨h5a, h5b, h5c, h5d⟩ := hx5
      refine at_pure (pv_field0 fa_40_0 rfl (r := 0) rfl) rfl ?_
      refine at_turns (by exact turns_store sz_3 rfl rfl (.one rfl) rfl rfl (.s (.s (.s .z))) (.rep .done) (.s (.s (.s .z)))) ?_
      refine at_nil ?_
      first | exact ex_meet (x5, p5) ⟨by omega, by omega, by omega, by omega⟩ ⟨rfl, rfl, rfl, rfl, trivial⟩ (List.Sublist.refl _) | exact ex_meet (x1, p4) ⟨by omega, by omega, by omega, by omega⟩ ⟨rfl, rfl, rfl, rfl, trivial⟩ (List.Sublist.refl _)
    · skip
      refine cd_skip ?_
      first | exact ex_meet (x5, p5) ⟨by omega, by omega, by omega, by omega⟩ ⟨rfl, rfl, rfl, rfl, trivial⟩ (List.Sublist.refl _) | exact ex_meet (x1, p4) ⟨by omega, by omega, by omega, by omega⟩ ⟨rfl, rfl, rfl, rfl, trivial⟩ (List.Sublist.refl _)
  · rintro ⟨f, p6⟩ ⟨hf1, hf2, hp6a, hp6b⟩
    refine cd_seq ?_
    refine cd_draw 10 [Box g2 [.int .i64 0, .int .i64 0, .int .i64 0] 40, Box g3 [.int .i64 f, .int .i64 x2, .int .i64 x3] 40] follows ?_
    refine dr_take 0 rfl (by kernel_rfl) (by first | exact List.Sublist.refl _ | (repeat first | exact List.Sublist.slnil | exact List.nil_sublist _ | apply List.Sublist.cons_cons | apply List.Sublist.cons)) (pv_move rfl) rfl ?_
    refine dr_take 2 rfl (by kernel_rfl) (by first | exact List.Sublist.refl _ | (repeat first | exact List.Sublist.slnil | exact List.nil_sublist _ | apply List.Sublist.cons_cons | apply List.Sublist.cons)) (pv_move rfl) rfl ?_
    refine dr_take 3 rfl (by kernel_rfl) (by first | exact List.Sublist.refl _ | (repeat first | exact List.Sublist.slnil | exact List.nil_sublist _ | apply List.Sublist.cons_cons | apply List.Sublist.cons)) (pv_field0 fa_40_2 rfl (r := 2) rfl) rfl ?_
    refine dr_take 4 rfl (by kernel_rfl) (by first | exact List.Sublist.refl _ | (repeat first | exact List.Sublist.slnil | exact List.nil_sublist _ | apply List.Sublist.cons_cons | apply List.Sublist.cons)) (by exact pv_load ld_3 rfl (box_cell (.s .z) (.s (.s .z)))) rfl ?_
    refine dr_take 5 rfl (by kernel_rfl) (by first | exact List.Sublist.refl _ | (repeat first | exact List.Sublist.slnil | exact List.nil_sublist _ | apply List.Sublist.cons_cons | apply List.Sublist.cons)) (by first | exact pv_add_n rfl rfl (by unfold In64; omega) | exact pv_add rfl rfl) rfl ?_
    refine dr_take 8 rfl (by kernel_rfl) (by first | exact List.Sublist.refl _ | (repeat first | exact List.Sublist.slnil | exact List.nil_sublist _ | apply List.Sublist.cons_cons | apply List.Sublist.cons)) (by exact pv_loads_box ag_40 rfl (.s .z) (.take (.take (.take .done)))) rfl ?_
    refine dr_one 1 (by kernel_rfl) rfl ?_
    refine at_hand (does_hand cal45 rfl rfl rfl (.s (.s .z)) (fun w hs => next_any gd a len cap p6 (262145) w (hs.box (i := 2) rfl) (hI.beside hs (.s (.s .z))) (by omega) hl (by omega)) (fun _ => (.s (.s .z)))) rfl (fun x6 p7 hx6 => ?_)
    obtain ⟨h6a, h6b, h6c, h6d⟩ := hx6
    refine at_nil (dr_next (fun _ => (by first | exact List.Sublist.refl _ | (repeat first | exact List.Sublist.slnil | exact List.nil_sublist _ | apply List.Sublist.cons_cons | apply List.Sublist.cons))) ?_)
    refine dr_one 6 (by kernel_rfl) rfl ?_
    refine at_hand (does_hand cal45 rfl rfl rfl (.s (.s .z)) (fun w hs => next_any gd a len cap p7 (x3 + 1) w (hs.box (i := 2) rfl) (hI.beside hs (.s (.s .z))) (by omega) hl (by omega)) (fun _ => (.s (.s .z)))) rfl (fun x7 p8 hx7 => ?_)
    obtain ⟨h7a, h7b, h7c, h7d⟩ := hx7
    refine at_nil (dr_next (fun _ => (by first | exact List.Sublist.refl _ | (repeat first | exact List.Sublist.slnil | exact List.nil_sublist _ | apply List.Sublist.cons_cons | apply List.Sublist.cons))) ?_)
    refine dr_take 7 rfl (by kernel_rfl) (by first | exact List.Sublist.refl _ | (repeat first | exact List.Sublist.slnil | exact List.nil_sublist _ | apply List.Sublist.cons_cons | apply List.Sublist.cons)) (pv_build rfl (bu_38_0_1 _ _)) rfl ?_
    refine dr_one 9 (by kernel_rfl) rfl ?_
    refine at_turns (by exact turns_store sz_38 rfl rfl .agg rfl rfl .z (.rep (.rep .done)) .z) ?_
    refine at_nil (dr_next (fun _ => (by first | exact List.Sublist.refl _ | (repeat first | exact List.Sublist.slnil | exact List.nil_sublist _ | apply List.Sublist.cons_cons | apply List.Sublist.cons))) ?_)
    refine dr_one 10 (by kernel_rfl) rfl ?_
    refine at_turns (by exact turns_store sz_40 rfl rfl .agg rfl rfl (.s .z) (.rep (.rep (.rep .done))) (.s .z)) ?_
    refine at_nil (dr_next (fun h => by cases h) ?_)
    refine dr_done (by kernel_rfl) ?_
    refine ex_go ?_
    refine cd_ret ?_
    exact end_cc rfl (by exact Lies.box ag_38 rfl .z rfl) (by exact Lies.box ag_40 rfl (.s .z) rfl) (fun w hs => Some'.mk (x6, x7, f, x2, x3) (by unfold MadeOk; dsimp only; omega) rfl hs)

theorem step_sane (w : World) : Calls Try.prog 23 [.agg #[.int .i64 65536, .int .i64 0], .agg #[.int .i64 32768, .int .i64 16384, .int .i64 2], .int .i64 0, .int .i64 64].toArray w (Val (.tuple #[.agg #[.int .i64 32768, .int .i64 2], .agg #[.int .i64 65536, .int .i64 32768, .int .i64 64, .int .i64 0], .int .i64 0]) w) := step_any _ _ _ _ _ _ _ w
theorem quanta_sane (w : World) : Calls Try.prog 25 [.agg #[.int .i64 0, .int .i64 2], .agg #[.int .i64 32768, .int .i64 16384, .int .i64 2], .int .i64 65536].toArray w (Val (.int .i64 6) w) := quanta_any _ _ _ _ _ _ w

theorem sane_duck  (w : World) : Calls Try.prog 19 [].toArray w (Val (.bool true) w) := by
  refine calls_body (n := 31) Try.func19 rfl rfl rfl (St.init _ []) ?_
  refine cd_seq ?_
  refine cd_region ?_
  refine at_pure (pv_assign rfl) rfl ?_
  refine at_nil ?_
  refine ex_go ?_
  refine cd_seq ?_
  refine cd_region ?_
  refine at_pure (pv_build rfl (bu_40_0_1_2 _ _ _)) rfl ?_
  refine at_does (does_alloc ze_40 .agg (fun _ => .nil)) rfl (fun g1 => ?_)
  refine at_turns (by exact turns_store sz_40 rfl rfl .agg rfl rfl .z (.rep (.rep (.rep .done))) .z) ?_
  refine at_nil ?_
  refine ex_go ?_
  refine cd_seq ?_
  refine cd_region ?_
  refine at_pure (pv_build rfl (bu_38_0 _)) rfl ?_
  refine at_pure (by exact pv_loads_box ag_40 rfl .z (.take (.take (.take .done)))) rfl ?_
  refine at_does (does_val cal23 rfl rfl rfl (fun w hs => step_sane w)) rfl (fun _ => ?_)
  refine at_pure (pv_move rfl) rfl ?_
  refine at_pure (pv_extract rfl rfl) rfl ?_
  refine at_pure (pv_extract rfl rfl) rfl ?_
  refine at_pure (pv_extract rfl rfl) rfl ?_
  refine at_does (does_alloc ze_38 .agg (fun _ => (.cons .nil))) rfl (fun g2 => ?_)
  refine at_does (does_alloc ze_45 .agg (fun _ => (.cons (.cons .nil)))) rfl (fun g3 => ?_)
  refine at_turns (by exact turns_store sz_38 rfl rfl .agg rfl rfl (.s .z) (.rep (.rep .done)) (.s .z)) ?_
  refine at_turns (by exact turns_store sz_45 rfl rfl .agg rfl rfl (.s (.s .z)) (.rep (.rep (.rep (.rep .done)))) (.s (.s .z))) ?_
  refine at_pure (pv_assign rfl) rfl ?_
  refine at_nil ?_
  refine ex_go ?_
  refine cd_seq ?_
  refine cd_region ?_
  refine at_pure (pv_move rfl) rfl ?_
  refine at_pure (pv_eql rfl rfl) rfl ?_
  refine at_pure (pv_move rfl) rfl ?_
  refine at_pure_g rfl rfl rfl (by exact pv_loads_box ag_38 rfl (.s .z) (.take (.take .done))) rfl ?_
  refine at_pure_g rfl rfl rfl (pv_build rfl (bu_38_0_1 _ _)) rfl ?_
  refine at_pure_g rfl rfl rfl (pv_eqls_same sb_38 rfl rfl rfl) rfl ?_
  refine at_pure (pv_pick_t rfl rfl rfl) rfl ?_
  refine at_pure (pv_move rfl) rfl ?_
  refine at_pure_g rfl rfl rfl (by exact pv_loads_box ag_45 rfl (.s (.s .z)) (.take (.take (.take (.take .done))))) rfl ?_
  refine at_pure_g rfl rfl rfl (pv_build rfl (bu_45_0_1_2 _ _ _)) rfl ?_
  refine at_pure_g rfl rfl rfl (pv_eqls_same sb_45 rfl rfl rfl) rfl ?_
  refine at_pure (pv_pick_t rfl rfl rfl) rfl ?_
  refine at_pure (pv_move rfl) rfl ?_
  refine at_pure_g rfl rfl rfl (pv_build rfl (bu_38_1 _)) rfl ?_
  refine at_pure_g rfl rfl rfl (by exact pv_loads_box ag_40 rfl .z (.take (.take (.take .done)))) rfl ?_
  refine at_does_g rfl rfl rfl (does_val cal25 rfl rfl rfl (fun w hs => quanta_sane w)) rfl (fun _ => ?_)
  refine at_pure_g rfl rfl rfl (pv_eql rfl rfl) rfl ?_
  refine at_pure (pv_pick_t rfl rfl rfl) rfl ?_
  refine at_pure (pv_assign rfl) rfl ?_
  refine at_nil ?_
  refine ex_go ?_
  refine cd_ret ?_
  exact end_ret1 rfl rfl (fun w hs => Val.mk hs)

set_option maxRecDepth 10000 in
set_option maxHeartbeats 2000000 in
theorem duckSteps_any (a : Option Addr) (len cap : Nat) (g h f r o want n : Int) (w : World) (hI : Ints [] w a len) (hl : len ≤ 17592186044416) : Calls Try.prog 5 [.slice a len cap, .agg #[.int .i64 g, .int .i64 h], .agg #[.int .i64 f, .int .i64 r, .int .i64 o], .int .i64 want, .int .i64 n].toArray w (Val (.bool true) w) := by
  refine calls_body (n := 146) Try.func5 rfl rfl rfl (St.init _ []) ?_
  refine cd_seq ?_
  refine cd_region ?_
  refine at_does (does_box rfl .agg (fun _ => .nil)) rfl (fun g1 => ?_)
  refine at_does (does_box rfl .agg (fun _ => (.cons .nil))) rfl (fun g2 => ?_)
  refine at_pure (pv_assign rfl) rfl ?_
  refine at_nil ?_
  refine ex_go ?_
  refine cd_seq ?_
  refine cd_seq ?_
  refine cd_region ?_
  refine at_does (does_val cal19 rfl rfl rfl (fun w hs => sane_duck w)) rfl (fun _ => ?_)
  refine at_pure (pv_not rfl) rfl ?_
  refine at_nil ?_
  refine ex_go ?_
  refine cd_else rfl rfl ?_
  refine cd_skip ?_
  refine ex_go ?_
  refine cd_seq ?_
  refine cd_region ?_
  refine at_pure (pv_move rfl) rfl ?_
  refine at_does (does_some cal20 rfl rfl rfl (fun w hs => made_any a len cap w (hI.keep hs.keep) hl)) rfl (fun z => ?_)
  obtain ⟨⟨e1, e2, e3, e4, e5⟩, hz⟩ := z
  unfold MadeOk at hz
  dsimp only at hz ⊢
  refine at_pure (pv_move rfl) rfl ?_
  refine at_pure (pv_extract rfl rfl) rfl ?_
  refine at_pure (pv_extract rfl rfl) rfl ?_
  refine at_does (does_alloc ze_38 .agg (fun _ => (.cons (.cons .nil)))) rfl (fun g3 => ?_)
  refine at_does (does_alloc ze_40 .agg (fun _ => (.cons (.cons (.cons .nil))))) rfl (fun g4 => ?_)
  refine at_turns (by exact turns_store sz_38 rfl rfl .agg rfl rfl (.s (.s .z)) (.rep (.rep .done)) (.s (.s .z))) ?_
  refine at_turns (by exact turns_store sz_40 rfl rfl .agg rfl rfl (.s (.s (.s .z))) (.rep (.rep (.rep .done))) (.s (.s (.s .z)))) ?_
  refine at_nil ?_
  refine ex_go ?_
  refine cd_seq ?_
  refine cd_seq ?_
  refine cd_draw' 25 follows ?_
  refine dr_take 0 rfl (by kernel_rfl) (by first | exact List.Sublist.refl _ | (repeat first | exact List.Sublist.slnil | exact List.nil_sublist _ | apply List.Sublist.cons_cons | apply List.Sublist.cons)) (by exact pv_loads_box ag_38 rfl .z (.take (.take .done))) rfl ?_
  refine dr_take 1 rfl (by kernel_rfl) (by first | exact List.Sublist.refl _ | (repeat first | exact List.Sublist.slnil | exact List.nil_sublist _ | apply List.Sublist.cons_cons | apply List.Sublist.cons)) (by exact pv_loads_box ag_40 rfl (.s .z) (.take (.take (.take .done)))) rfl ?_
  refine dr_take 3 rfl (by kernel_rfl) (by first | exact List.Sublist.refl _ | (repeat first | exact List.Sublist.slnil | exact List.nil_sublist _ | apply List.Sublist.cons_cons | apply List.Sublist.cons)) (by exact pv_loads_box ag_38 rfl .z (.take (.take .done))) rfl ?_
  refine dr_take 4 rfl (by kernel_rfl) (by first | exact List.Sublist.refl _ | (repeat first | exact List.Sublist.slnil | exact List.nil_sublist _ | apply List.Sublist.cons_cons | apply List.Sublist.cons)) (by exact pv_loads_box ag_40 rfl (.s .z) (.take (.take (.take .done)))) rfl ?_
  refine dr_one 2 (by kernel_rfl) rfl ?_
  refine at_does (does_val cal21 rfl rfl rfl (fun w hs => valid_any _ _ _ _ _ w)) rfl (fun _ => ?_)
  refine at_nil (dr_next (fun _ => (by first | exact List.Sublist.refl _ | (repeat first | exact List.Sublist.slnil | exact List.nil_sublist _ | apply List.Sublist.cons_cons | apply List.Sublist.cons))) ?_)
  refine dr_one 5 (by kernel_rfl) rfl ?_
  refine at_does (does_val cal22 rfl rfl rfl (fun w hs => valid_ref _ _ _ _ _ w)) rfl (fun _ => ?_)
  refine at_nil (dr_next (fun _ => (by first | exact List.Sublist.refl _ | (repeat first | exact List.Sublist.slnil | exact List.nil_sublist _ | apply List.Sublist.cons_cons | apply List.Sublist.cons))) ?_)
  refine dr_take 6 rfl (by kernel_rfl) (by first | exact List.Sublist.refl _ | (repeat first | exact List.Sublist.slnil | exact List.nil_sublist _ | apply List.Sublist.cons_cons | apply List.Sublist.cons)) (pv_neq_b_same Try.underlying4 rfl rfl) rfl ?_
  refine dr_take 7 rfl (by kernel_rfl) (by first | exact List.Sublist.refl _ | (repeat first | exact List.Sublist.slnil | exact List.nil_sublist _ | apply List.Sublist.cons_cons | apply List.Sublist.cons)) (pv_move rfl) rfl ?_
  refine dr_take_g 8 rfl rfl rfl rfl (by kernel_rfl) (by first | exact List.Sublist.refl _ | (repeat first | exact List.Sublist.slnil | exact List.nil_sublist _ | apply List.Sublist.cons_cons | apply List.Sublist.cons)) (by exact pv_loads_box ag_38 rfl (.s (.s .z)) (.take (.take .done))) rfl ?_
  refine dr_take_g 9 rfl rfl rfl rfl (by kernel_rfl) (by first | exact List.Sublist.refl _ | (repeat first | exact List.Sublist.slnil | exact List.nil_sublist _ | apply List.Sublist.cons_cons | apply List.Sublist.cons)) (by exact pv_loads_box ag_40 rfl (.s .z) (.take (.take (.take .done)))) rfl ?_
  refine dr_take_g 11 rfl rfl rfl rfl (by kernel_rfl) (by first | exact List.Sublist.refl _ | (repeat first | exact List.Sublist.slnil | exact List.nil_sublist _ | apply List.Sublist.cons_cons | apply List.Sublist.cons)) (by exact pv_loads_box ag_38 rfl (.s (.s .z)) (.take (.take .done))) rfl ?_
  refine dr_take_g 12 rfl rfl rfl rfl (by kernel_rfl) (by first | exact List.Sublist.refl _ | (repeat first | exact List.Sublist.slnil | exact List.nil_sublist _ | apply List.Sublist.cons_cons | apply List.Sublist.cons)) (by exact pv_loads_box ag_40 rfl (.s .z) (.take (.take (.take .done)))) rfl ?_
  refine dr_one 10 (by kernel_rfl) rfl ?_
  refine at_does_g rfl rfl rfl (does_val cal21 rfl rfl rfl (fun w hs => valid_any _ _ _ _ _ w)) rfl (fun _ => ?_)
  refine at_nil (dr_next (fun _ => (by first | exact List.Sublist.refl _ | (repeat first | exact List.Sublist.slnil | exact List.nil_sublist _ | apply List.Sublist.cons_cons | apply List.Sublist.cons))) ?_)
  refine dr_one 13 (by kernel_rfl) rfl ?_
  refine at_does_g rfl rfl rfl (does_val cal22 rfl rfl rfl (fun w hs => valid_ref _ _ _ _ _ w)) rfl (fun _ => ?_)
  refine at_nil (dr_next (fun _ => (by first | exact List.Sublist.refl _ | (repeat first | exact List.Sublist.slnil | exact List.nil_sublist _ | apply List.Sublist.cons_cons | apply List.Sublist.cons))) ?_)
  refine dr_take_g 14 rfl rfl rfl rfl (by kernel_rfl) (by first | exact List.Sublist.refl _ | (repeat first | exact List.Sublist.slnil | exact List.nil_sublist _ | apply List.Sublist.cons_cons | apply List.Sublist.cons)) (pv_neq_b_same Try.underlying4 rfl rfl) rfl ?_
  refine dr_take 15 rfl (by kernel_rfl) (by first | exact List.Sublist.refl _ | (repeat first | exact List.Sublist.slnil | exact List.nil_sublist _ | apply List.Sublist.cons_cons | apply List.Sublist.cons)) (pv_pick_f rfl rfl rfl) rfl ?_
  refine dr_take 16 rfl (by kernel_rfl) (by first | exact List.Sublist.refl _ | (repeat first | exact List.Sublist.slnil | exact List.nil_sublist _ | apply List.Sublist.cons_cons | apply List.Sublist.cons)) (pv_move rfl) rfl ?_
  refine dr_take_g 17 rfl rfl rfl rfl (by kernel_rfl) (by first | exact List.Sublist.refl _ | (repeat first | exact List.Sublist.slnil | exact List.nil_sublist _ | apply List.Sublist.cons_cons | apply List.Sublist.cons)) (by exact pv_loads_box ag_38 rfl .z (.take (.take .done))) rfl ?_
  refine dr_take_g 18 rfl rfl rfl rfl (by kernel_rfl) (by first | exact List.Sublist.refl _ | (repeat first | exact List.Sublist.slnil | exact List.nil_sublist _ | apply List.Sublist.cons_cons | apply List.Sublist.cons)) (by exact pv_loads_box ag_40 rfl (.s (.s (.s .z))) (.take (.take (.take .done)))) rfl ?_
  refine dr_take_g 20 rfl rfl rfl rfl (by kernel_rfl) (by first | exact List.Sublist.refl _ | (repeat first | exact List.Sublist.slnil | exact List.nil_sublist _ | apply List.Sublist.cons_cons | apply List.Sublist.cons)) (by exact pv_loads_box ag_38 rfl .z (.take (.take .done))) rfl ?_
  refine dr_take_g 21 rfl rfl rfl rfl (by kernel_rfl) (by first | exact List.Sublist.refl _ | (repeat first | exact List.Sublist.slnil | exact List.nil_sublist _ | apply List.Sublist.cons_cons | apply List.Sublist.cons)) (by exact pv_loads_box ag_40 rfl (.s (.s (.s .z))) (.take (.take (.take .done)))) rfl ?_
  refine dr_one 19 (by kernel_rfl) rfl ?_
  refine at_does_g rfl rfl rfl (does_val cal21 rfl rfl rfl (fun w hs => valid_any _ _ _ _ _ w)) rfl (fun _ => ?_)
  refine at_nil (dr_next (fun _ => (by first | exact List.Sublist.refl _ | (repeat first | exact List.Sublist.slnil | exact List.nil_sublist _ | apply List.Sublist.cons_cons | apply List.Sublist.cons))) ?_)
  refine dr_one 22 (by kernel_rfl) rfl ?_
  refine at_does_g rfl rfl rfl (does_val cal22 rfl rfl rfl (fun w hs => valid_ref _ _ _ _ _ w)) rfl (fun _ => ?_)
  refine at_nil (dr_next (fun _ => (by first | exact List.Sublist.refl _ | (repeat first | exact List.Sublist.slnil | exact List.nil_sublist _ | apply List.Sublist.cons_cons | apply List.Sublist.cons))) ?_)
  refine dr_take_g 23 rfl rfl rfl rfl (by kernel_rfl) (by first | exact List.Sublist.refl _ | (repeat first | exact List.Sublist.slnil | exact List.nil_sublist _ | apply List.Sublist.cons_cons | apply List.Sublist.cons)) (pv_neq_b_same Try.underlying4 rfl rfl) rfl ?_
  refine dr_take 24 rfl (by kernel_rfl) (by first | exact List.Sublist.refl _ | (repeat first | exact List.Sublist.slnil | exact List.nil_sublist _ | apply List.Sublist.cons_cons | apply List.Sublist.cons)) (pv_pick_f rfl rfl rfl) rfl ?_
  refine dr_done (by kernel_rfl) ?_
  refine ex_go ?_
  refine cd_else rfl rfl ?_
  refine cd_skip ?_
  refine ex_go ?_
  refine cd_seq ?_
  refine cd_seq ?_
  refine cd_region ?_
  refine at_pure (pv_move rfl) rfl ?_
  refine at_pure (pv_move rfl) rfl ?_
  refine at_does (does_val cal12 rfl rfl rfl (fun w hs => mod_any _ _ w (by decide))) rfl (fun _ => ?_)
  refine at_does (does_list (by rfl) (by exact (bs_36_2_0_1 _ _)) (by exact (fun _ => (.cons (.cons (.cons (.cons .nil))))))) rfl (fun g5 => ?_)
  refine at_pure (pv_len Try.underlying36 rfl) rfl ?_
  refine at_pure (pv_move rfl) rfl ?_
  refine at_nil ?_
  refine ex_go ?_
  refine cd_block ?_
  refine cd_rounds 2 ?_
  refine cd_seq ?_
  refine cd_region ?_
  refine at_pure (pv_lss rfl rfl) rfl ?_
  refine at_nil ?_
  refine ex_go ?_
  refine cd_seq ?_
  refine cd_then rfl (by decide) ?_
  refine cd_skip ?_
  refine ex_go ?_
  refine cd_seq ?_
  refine cd_block ?_
  refine cd_seq ?_
  refine cd_region ?_
  refine at_pure (pv_indexLit Try.underlying36 cz_3 rfl rfl (by decide) rfl) rfl ?_
  refine at_pure (by exact pv_load ld_3 rfl (box_cell (.s (.s (.s (.s .z)))) .z)) rfl ?_
  refine at_pure (pv_assign rfl) rfl ?_
  refine at_nil ?_
  refine ex_go ?_
  refine cd_seq ?_
  refine cd_region ?_
  refine at_pure (pv_move rfl) rfl ?_
  refine at_pure (pv_move rfl) rfl ?_
  refine at_does (does_val cal12 rfl rfl rfl (fun w hs => mod_any _ _ w (by decide))) rfl (fun _ => ?_)
  refine at_pure (by first | exact pv_add_n rfl rfl (by unfold In64; omega) | exact pv_add rfl rfl) rfl ?_
  refine at_does (does_list (by rfl) (by exact (bs_36_2_0_1 _ _)) (by exact (fun _ => (.cons (.cons (.cons (.cons (.cons .nil)))))))) rfl (fun g6 => ?_)
  refine at_pure (pv_len Try.underlying36 rfl) rfl ?_
  refine at_pure (pv_move rfl) rfl ?_
  refine at_nil ?_
  refine ex_go ?_
  refine cd_block ?_
  refine cd_rounds 2 ?_
  refine cd_seq ?_
  refine cd_region ?_
  refine at_pure (pv_lss rfl rfl) rfl ?_
  refine at_nil ?_
  refine ex_go ?_
  refine cd_seq ?_
  refine cd_then rfl (by decide) ?_
  refine cd_skip ?_
  refine ex_go ?_
  refine cd_seq ?_
  refine cd_block ?_
  refine cd_seq ?_
  refine cd_region ?_
  refine at_pure (pv_indexLit Try.underlying36 cz_3 rfl rfl (by decide) rfl) rfl ?_
  refine at_pure (by exact pv_load ld_3 rfl (box_cell (.s (.s (.s (.s (.s .z))))) .z)) rfl ?_
  refine at_pure (pv_assign rfl) rfl ?_
  refine at_nil ?_
  refine ex_go ?_
  refine cd_seq ?_
  refine cd_region ?_
  refine at_pure (by exact pv_loads_box ag_38 rfl (.s (.s .z)) (.take (.take .done))) rfl ?_
  refine at_pure (by exact pv_loads_box ag_40 rfl (.s (.s (.s .z))) (.take (.take (.take .done)))) rfl ?_
  refine at_pure (pv_move rfl) rfl ?_
  refine at_pure (pv_move rfl) rfl ?_
  refine at_does (does_val cal23 rfl rfl rfl (fun w hs => step_any _ _ _ _ _ _ _ w)) rfl (fun _ => ?_)
  refine at_pure (pv_move rfl) rfl ?_
  refine at_pure (pv_extract rfl rfl) rfl ?_
  refine at_pure (pv_extract rfl rfl) rfl ?_
  refine at_pure (pv_extract rfl rfl) rfl ?_
  refine at_does (does_alloc ze_38 .agg (fun _ => (.cons (.cons (.cons (.cons (.cons (.cons .nil)))))))) rfl (fun g7 => ?_)
  refine at_does (does_alloc ze_45 .agg (fun _ => (.cons (.cons (.cons (.cons (.cons (.cons (.cons .nil))))))))) rfl (fun g8 => ?_)
  refine at_turns (by exact turns_store sz_38 rfl rfl .agg rfl rfl (.s (.s (.s (.s (.s (.s .z)))))) (.rep (.rep .done)) (.s (.s (.s (.s (.s (.s .z))))))) ?_
  refine at_turns (by exact turns_store sz_45 rfl rfl .agg rfl rfl (.s (.s (.s (.s (.s (.s (.s .z))))))) (.rep (.rep (.rep (.rep .done)))) (.s (.s (.s (.s (.s (.s (.s .z)))))))) ?_
  refine at_pure (pv_assign rfl) rfl ?_
  refine at_nil ?_
  refine ex_go ?_
  refine cd_seq ?_
  refine cd_region ?_
  refine at_pure (by exact pv_loads_box ag_38 rfl (.s (.s .z)) (.take (.take .done))) rfl ?_
  refine at_pure (by exact pv_loads_box ag_40 rfl (.s (.s (.s .z))) (.take (.take (.take .done)))) rfl ?_
  refine at_pure (pv_move rfl) rfl ?_
  refine at_pure (pv_move rfl) rfl ?_
  refine at_does (does_val cal24 rfl rfl rfl (fun w hs => step_ref _ _ _ _ _ _ _ w)) rfl (fun _ => ?_)
  refine at_pure (pv_move rfl) rfl ?_
  refine at_pure (pv_extract rfl rfl) rfl ?_
  refine at_pure (pv_extract rfl rfl) rfl ?_
  refine at_pure (pv_extract rfl rfl) rfl ?_
  refine at_does (does_alloc ze_38 .agg (fun _ => (.cons (.cons (.cons (.cons (.cons (.cons (.cons (.cons .nil)))))))))) rfl (fun g9 => ?_)
  refine at_does (does_alloc ze_45 .agg (fun _ => (.cons (.cons (.cons (.cons (.cons (.cons (.cons (.cons (.cons .nil))))))))))) rfl (fun g10 => ?_)
  refine at_turns (by exact turns_store sz_38 rfl rfl .agg rfl rfl (.s (.s (.s (.s (.s (.s (.s (.s .z)))))))) (.rep (.rep .done)) (.s (.s (.s (.s (.s (.s (.s (.s .z))))))))) ?_
  refine at_turns (by exact turns_store sz_45 rfl rfl .agg rfl rfl (.s (.s (.s (.s (.s (.s (.s (.s (.s .z))))))))) (.rep (.rep (.rep (.rep .done)))) (.s (.s (.s (.s (.s (.s (.s (.s (.s .z)))))))))) ?_
  refine at_pure (pv_assign rfl) rfl ?_
  refine at_nil ?_
  refine ex_go ?_
  refine cd_seq ?_
  refine cd_region ?_
  refine at_pure (by exact pv_loads_box ag_38 rfl .z (.take (.take .done))) rfl ?_
  refine at_pure (by exact pv_loads_box ag_40 rfl (.s .z) (.take (.take (.take .done)))) rfl ?_
  refine at_pure (pv_move rfl) rfl ?_
  refine at_pure (pv_move rfl) rfl ?_
  refine at_does (does_val cal23 rfl rfl rfl (fun w hs => step_any _ _ _ _ _ _ _ w)) rfl (fun _ => ?_)
  refine at_pure (pv_move rfl) rfl ?_
  refine at_pure (pv_extract rfl rfl) rfl ?_
  refine at_pure (pv_extract rfl rfl) rfl ?_
  refine at_pure (pv_extract rfl rfl) rfl ?_
  refine at_does (does_alloc ze_38 .agg (fun _ => (.cons (.cons (.cons (.cons (.cons (.cons (.cons (.cons (.cons (.cons .nil)))))))))))) rfl (fun g11 => ?_)
  refine at_does (does_alloc ze_45 .agg (fun _ => (.cons (.cons (.cons (.cons (.cons (.cons (.cons (.cons (.cons (.cons (.cons .nil))))))))))))) rfl (fun g12 => ?_)
  refine at_turns (by exact turns_store sz_38 rfl rfl .agg rfl rfl (.s (.s (.s (.s (.s (.s (.s (.s (.s (.s .z)))))))))) (.rep (.rep .done)) (.s (.s (.s (.s (.s (.s (.s (.s (.s (.s .z))))))))))) ?_
  refine at_turns (by exact turns_store sz_45 rfl rfl .agg rfl rfl (.s (.s (.s (.s (.s (.s (.s (.s (.s (.s (.s .z))))))))))) (.rep (.rep (.rep (.rep .done)))) (.s (.s (.s (.s (.s (.s (.s (.s (.s (.s (.s .z)))))))))))) ?_
  refine at_pure (pv_assign rfl) rfl ?_
  refine at_nil ?_
  refine ex_go ?_
  refine cd_seq ?_
  refine cd_region ?_
  refine at_pure (by exact pv_loads_box ag_38 rfl .z (.take (.take .done))) rfl ?_
  refine at_pure (by exact pv_loads_box ag_40 rfl (.s .z) (.take (.take (.take .done)))) rfl ?_
  refine at_pure (pv_move rfl) rfl ?_
  refine at_pure (pv_move rfl) rfl ?_
  refine at_does (does_val cal24 rfl rfl rfl (fun w hs => step_ref _ _ _ _ _ _ _ w)) rfl (fun _ => ?_)
  refine at_pure (pv_move rfl) rfl ?_
  refine at_pure (pv_extract rfl rfl) rfl ?_
  refine at_pure (pv_extract rfl rfl) rfl ?_
  refine at_pure (pv_extract rfl rfl) rfl ?_
  refine at_does (does_alloc ze_38 .agg (fun _ => (.cons (.cons (.cons (.cons (.cons (.cons (.cons (.cons (.cons (.cons (.cons (.cons .nil)))))))))))))) rfl (fun g13 => ?_)
  refine at_does (does_alloc ze_45 .agg (fun _ => (.cons (.cons (.cons (.cons (.cons (.cons (.cons (.cons (.cons (.cons (.cons (.cons (.cons .nil))))))))))))))) rfl (fun g14 => ?_)
  refine at_turns (by exact turns_store sz_38 rfl rfl .agg rfl rfl (.s (.s (.s (.s (.s (.s (.s (.s (.s (.s (.s (.s .z)))))))))))) (.rep (.rep .done)) (.s (.s (.s (.s (.s (.s (.s (.s (.s (.s (.s (.s .z))))))))))))) ?_
  refine at_turns (by exact turns_store sz_45 rfl rfl .agg rfl rfl (.s (.s (.s (.s (.s (.s (.s (.s (.s (.s (.s (.s (.s .z))))))))))))) (.rep (.rep (.rep (.rep .done)))) (.s (.s (.s (.s (.s (.s (.s (.s (.s (.s (.s (.s (.s .z)))))))))))))) ?_
  refine at_pure (pv_assign rfl) rfl ?_
  refine at_nil ?_
  refine ex_go ?_
  refine cd_seq ?_
  refine cd_region ?_
  refine at_pure (by exact pv_loads_box ag_38 rfl (.s (.s (.s (.s (.s (.s .z)))))) (.take (.take .done))) rfl ?_
  refine at_pure (by exact pv_loads_box ag_38 rfl (.s (.s (.s (.s (.s (.s (.s (.s .z)))))))) (.take (.take .done))) rfl ?_
  refine at_pure (pv_neqls_same sb_38 rfl rfl rfl) rfl ?_
  refine at_pure (pv_move rfl) rfl ?_
  refine at_pure_g rfl rfl rfl (by exact pv_loads_box ag_45 rfl (.s (.s (.s (.s (.s (.s (.s .z))))))) (.take (.take (.take (.take .done))))) rfl ?_
  refine at_pure_g rfl rfl rfl (by exact pv_loads_box ag_45 rfl (.s (.s (.s (.s (.s (.s (.s (.s (.s .z))))))))) (.take (.take (.take (.take .done))))) rfl ?_
  refine at_pure_g rfl rfl rfl (pv_neqls_same sb_45 rfl rfl rfl) rfl ?_
  refine at_pure (pv_pick_f rfl rfl rfl) rfl ?_
  refine at_pure (pv_move rfl) rfl ?_
  refine at_pure_g rfl rfl rfl (pv_move rfl) rfl ?_
  refine at_pure_g rfl rfl rfl (pv_move rfl) rfl ?_
  refine at_pure_g rfl rfl rfl (pv_neq_same rfl rfl) rfl ?_
  refine at_pure (pv_pick_f rfl rfl rfl) rfl ?_
  refine at_pure (pv_move rfl) rfl ?_
  refine at_pure_g rfl rfl rfl (by exact pv_loads_box ag_38 rfl (.s (.s (.s (.s (.s (.s (.s (.s (.s (.s .z)))))))))) (.take (.take .done))) rfl ?_
  refine at_pure_g rfl rfl rfl (by exact pv_loads_box ag_38 rfl (.s (.s (.s (.s (.s (.s (.s (.s (.s (.s (.s (.s .z)))))))))))) (.take (.take .done))) rfl ?_
  refine at_pure_g rfl rfl rfl (pv_neqls_same sb_38 rfl rfl rfl) rfl ?_
  refine at_pure (pv_pick_f rfl rfl rfl) rfl ?_
  refine at_pure (pv_move rfl) rfl ?_
  refine at_pure_g rfl rfl rfl (by exact pv_loads_box ag_45 rfl (.s (.s (.s (.s (.s (.s (.s (.s (.s (.s (.s .z))))))))))) (.take (.take (.take (.take .done))))) rfl ?_
  refine at_pure_g rfl rfl rfl (by exact pv_loads_box ag_45 rfl (.s (.s (.s (.s (.s (.s (.s (.s (.s (.s (.s (.s (.s .z))))))))))))) (.take (.take (.take (.take .done))))) rfl ?_
  refine at_pure_g rfl rfl rfl (pv_neqls_same sb_45 rfl rfl rfl) rfl ?_
  refine at_pure (pv_pick_f rfl rfl rfl) rfl ?_
  refine at_pure (pv_move rfl) rfl ?_
  refine at_pure_g rfl rfl rfl (pv_move rfl) rfl ?_
  refine at_pure_g rfl rfl rfl (pv_move rfl) rfl ?_
  refine at_pure_g rfl rfl rfl (pv_neq_same rfl rfl) rfl ?_
  refine at_pure (pv_pick_f rfl rfl rfl) rfl ?_
  refine at_nil ?_
  refine ex_go ?_
  refine cd_else rfl rfl ?_
  refine cd_skip ?_
  refine ex_in_normal (ex_go ?_)
  refine cd_region ?_
  refine at_pure (by first | exact pv_add_n rfl rfl (by unfold In64; omega) | exact pv_add rfl rfl) rfl ?_
  refine at_pure (pv_move rfl) rfl ?_
  refine at_nil ?_
  refine ex_round ?_
  refine cd_seq ?_
  refine cd_region ?_
  refine at_pure (pv_lss rfl rfl) rfl ?_
  refine at_nil ?_
  refine ex_go ?_
  refine cd_seq ?_
  refine cd_then rfl (by decide) ?_
  refine cd_skip ?_
  refine ex_go ?_
  refine cd_seq ?_
  refine cd_block ?_
  refine cd_seq ?_
  refine cd_region ?_
  refine at_pure (pv_indexLit Try.underlying36 cz_3 rfl rfl (by decide) rfl) rfl ?_
  refine at_pure (by exact pv_load ld_3 rfl (box_cell (.s (.s (.s (.s (.s .z))))) (.s .z))) rfl ?_
  refine at_pure (pv_assign rfl) rfl ?_
  refine at_nil ?_
  refine ex_go ?_
  refine cd_seq ?_
  refine cd_region ?_
  refine at_pure (by exact pv_loads_box ag_38 rfl (.s (.s .z)) (.take (.take .done))) rfl ?_
  refine at_pure (by exact pv_loads_box ag_40 rfl (.s (.s (.s .z))) (.take (.take (.take .done)))) rfl ?_
  refine at_pure (pv_move rfl) rfl ?_
  refine at_pure (pv_move rfl) rfl ?_
  refine at_does (does_val cal23 rfl rfl rfl (fun w hs => step_any _ _ _ _ _ _ _ w)) rfl (fun _ => ?_)
  refine at_pure (pv_move rfl) rfl ?_
  refine at_pure (pv_extract rfl rfl) rfl ?_
  refine at_pure (pv_extract rfl rfl) rfl ?_
  refine at_pure (pv_extract rfl rfl) rfl ?_
  refine at_does (does_alloc ze_38 .agg (fun _ => (.cons (.cons (.cons (.cons (.cons (.cons (.cons (.cons (.cons (.cons (.cons (.cons (.cons (.cons .nil)))))))))))))))) rfl (fun g15 => ?_)
  refine at_does (does_alloc ze_45 .agg (fun _ => (.cons (.cons (.cons (.cons (.cons (.cons (.cons (.cons (.cons (.cons (.cons (.cons (.cons (.cons (.cons .nil))))))))))))))))) rfl (fun g16 => ?_)
  refine at_turns (by exact turns_store sz_38 rfl rfl .agg rfl rfl (.s (.s (.s (.s (.s (.s (.s (.s (.s (.s (.s (.s (.s (.s .z)))))))))))))) (.rep (.rep .done)) (.s (.s (.s (.s (.s (.s (.s (.s (.s (.s (.s (.s (.s (.s .z))))))))))))))) ?_
  refine at_turns (by exact turns_store sz_45 rfl rfl .agg rfl rfl (.s (.s (.s (.s (.s (.s (.s (.s (.s (.s (.s (.s (.s (.s (.s .z))))))))))))))) (.rep (.rep (.rep (.rep .done)))) (.s (.s (.s (.s (.s (.s (.s (.s (.s (.s (.s (.s (.s (.s (.s .z)))))))))))))))) ?_
  refine at_pure (pv_assign rfl) rfl ?_
  refine at_nil ?_
  refine ex_go ?_
  refine cd_seq ?_
  refine cd_region ?_
  refine at_pure (by exact pv_loads_box ag_38 rfl (.s (.s .z)) (.take (.take .done))) rfl ?_
  refine at_pure (by exact pv_loads_box ag_40 rfl (.s (.s (.s .z))) (.take (.take (.take .done)))) rfl ?_
  refine at_pure (pv_move rfl) rfl ?_
  refine at_pure (pv_move rfl) rfl ?_
  refine at_does (does_val cal24 rfl rfl rfl (fun w hs => step_ref _ _ _ _ _ _ _ w)) rfl (fun _ => ?_)
  refine at_pure (pv_move rfl) rfl ?_
  refine at_pure (pv_extract rfl rfl) rfl ?_
  refine at_pure (pv_extract rfl rfl) rfl ?_
  refine at_pure (pv_extract rfl rfl) rfl ?_
  refine at_does (does_alloc ze_38 .agg (fun _ => (.cons (.cons (.cons (.cons (.cons (.cons (.cons (.cons (.cons (.cons (.cons (.cons (.cons (.cons (.cons (.cons .nil)))))))))))))))))) rfl (fun g17 => ?_)
  refine at_does (does_alloc ze_45 .agg (fun _ => (.cons (.cons (.cons (.cons (.cons (.cons (.cons (.cons (.cons (.cons (.cons (.cons (.cons (.cons (.cons (.cons (.cons .nil))))))))))))))))))) rfl (fun g18 => ?_)
  refine at_turns (by exact turns_store sz_38 rfl rfl .agg rfl rfl (.s (.s (.s (.s (.s (.s (.s (.s (.s (.s (.s (.s (.s (.s (.s (.s .z)))))))))))))))) (.rep (.rep .done)) (.s (.s (.s (.s (.s (.s (.s (.s (.s (.s (.s (.s (.s (.s (.s (.s .z))))))))))))))))) ?_
  refine at_turns (by exact turns_store sz_45 rfl rfl .agg rfl rfl (.s (.s (.s (.s (.s (.s (.s (.s (.s (.s (.s (.s (.s (.s (.s (.s (.s .z))))))))))))))))) (.rep (.rep (.rep (.rep .done)))) (.s (.s (.s (.s (.s (.s (.s (.s (.s (.s (.s (.s (.s (.s (.s (.s (.s .z)))))))))))))))))) ?_
  refine at_pure (pv_assign rfl) rfl ?_
  refine at_nil ?_
  refine ex_go ?_
  refine cd_seq ?_
  refine cd_region ?_
  refine at_pure (by exact pv_loads_box ag_38 rfl .z (.take (.take .done))) rfl ?_
  refine at_pure (by exact pv_loads_box ag_40 rfl (.s .z) (.take (.take (.take .done)))) rfl ?_
  refine at_pure (pv_move rfl) rfl ?_
  refine at_pure (pv_move rfl) rfl ?_
  refine at_does (does_val cal23 rfl rfl rfl (fun w hs => step_any _ _ _ _ _ _ _ w)) rfl (fun _ => ?_)
  refine at_pure (pv_move rfl) rfl ?_
  refine at_pure (pv_extract rfl rfl) rfl ?_
  refine at_pure (pv_extract rfl rfl) rfl ?_
  refine at_pure (pv_extract rfl rfl) rfl ?_
  refine at_does (does_alloc ze_38 .agg (fun _ => (.cons (.cons (.cons (.cons (.cons (.cons (.cons (.cons (.cons (.cons (.cons (.cons (.cons (.cons (.cons (.cons (.cons (.cons .nil)))))))))))))))))))) rfl (fun g19 => ?_)
  refine at_does (does_alloc ze_45 .agg (fun _ => (.cons (.cons (.cons (.cons (.cons (.cons (.cons (.cons (.cons (.cons (.cons (.cons (.cons (.cons (.cons (.cons (.cons (.cons (.cons .nil))))))))))))))))))))) rfl (fun g20 => ?_)
  refine at_turns (by exact turns_store sz_38 rfl rfl .agg rfl rfl (.s (.s (.s (.s (.s (.s (.s (.s (.s (.s (.s (.s (.s (.s (.s (.s (.s (.s .z)))))))))))))))))) (.rep (.rep .done)) (.s (.s (.s (.s (.s (.s (.s (.s (.s (.s (.s (.s (.s (.s (.s (.s (.s (.s .z))))))))))))))))))) ?_
  refine at_turns (by exact turns_store sz_45 rfl rfl .agg rfl rfl (.s (.s (.s (.s (.s (.s (.s (.s (.s (.s (.s (.s (.s (.s (.s (.s (.s (.s (.s .z))))))))))))))))))) (.rep (.rep (.rep (.rep .done)))) (.s (.s (.s (.s (.s (.s (.s (.s (.s (.s (.s (.s (.s (.s (.s (.s (.s (.s (.s .z)))))))))))))))))))) ?_
  refine at_pure (pv_assign rfl) rfl ?_
  refine at_nil ?_
  refine ex_go ?_
  refine cd_seq ?_
  refine cd_region ?_
  refine at_pure (by exact pv_loads_box ag_38 rfl .z (.take (.take .done))) rfl ?_
  refine at_pure (by exact pv_loads_box ag_40 rfl (.s .z) (.take (.take (.take .done)))) rfl ?_
  refine at_pure (pv_move rfl) rfl ?_
  refine at_pure (pv_move rfl) rfl ?_
  refine at_does (does_val cal24 rfl rfl rfl (fun w hs => step_ref _ _ _ _ _ _ _ w)) rfl (fun _ => ?_)
  refine at_pure (pv_move rfl) rfl ?_
  refine at_pure (pv_extract rfl rfl) rfl ?_
  refine at_pure (pv_extract rfl rfl) rfl ?_
  refine at_pure (pv_extract rfl rfl) rfl ?_
  refine at_does (does_alloc ze_38 .agg (fun _ => (.cons (.cons (.cons (.cons (.cons (.cons (.cons (.cons (.cons (.cons (.cons (.cons (.cons (.cons (.cons (.cons (.cons (.cons (.cons (.cons .nil)))))))))))))))))))))) rfl (fun g21 => ?_)
  refine at_does (does_alloc ze_45 .agg (fun _ => (.cons (.cons (.cons (.cons (.cons (.cons (.cons (.cons (.cons (.cons (.cons (.cons (.cons (.cons (.cons (.cons (.cons (.cons (.cons (.cons (.cons .nil))))))))))))))))))))))) rfl (fun g22 => ?_)
  refine at_turns (by exact turns_store sz_38 rfl rfl .agg rfl rfl (.s (.s (.s (.s (.s (.s (.s (.s (.s (.s (.s (.s (.s (.s (.s (.s (.s (.s (.s (.s .z)))))))))))))))))))) (.rep (.rep .done)) (.s (.s (.s (.s (.s (.s (.s (.s (.s (.s (.s (.s (.s (.s (.s (.s (.s (.s (.s (.s .z))))))))))))))))))))) ?_
  refine at_turns (by exact turns_store sz_45 rfl rfl .agg rfl rfl (.s (.s (.s (.s (.s (.s (.s (.s (.s (.s (.s (.s (.s (.s (.s (.s (.s (.s (.s (.s (.s .z))))))))))))))))))))) (.rep (.rep (.rep (.rep .done)))) (.s (.s (.s (.s (.s (.s (.s (.s (.s (.s (.s (.s (.s (.s (.s (.s (.s (.s (.s (.s (.s .z)))))))))))))))))))))) ?_
  refine at_pure (pv_assign rfl) rfl ?_
  refine at_nil ?_
  refine ex_go ?_
  refine cd_seq ?_
  refine cd_region ?_
  refine at_pure (by exact pv_loads_box ag_38 rfl (.s (.s (.s (.s (.s (.s (.s (.s (.s (.s (.s (.s (.s (.s .z)))))))))))))) (.take (.take .done))) rfl ?_
  refine at_pure (by exact pv_loads_box ag_38 rfl (.s (.s (.s (.s (.s (.s (.s (.s (.s (.s (.s (.s (.s (.s (.s (.s .z)))))))))))))))) (.take (.take .done))) rfl ?_
  refine at_pure (pv_neqls_same sb_38 rfl rfl rfl) rfl ?_
  refine at_pure (pv_move rfl) rfl ?_
  refine at_pure_g rfl rfl rfl (by exact pv_loads_box ag_45 rfl (.s (.s (.s (.s (.s (.s (.s (.s (.s (.s (.s (.s (.s (.s (.s .z))))))))))))))) (.take (.take (.take (.take .done))))) rfl ?_
  refine at_pure_g rfl rfl rfl (by exact pv_loads_box ag_45 rfl (.s (.s (.s (.s (.s (.s (.s (.s (.s (.s (.s (.s (.s (.s (.s (.s (.s .z))))))))))))))))) (.take (.take (.take (.take .done))))) rfl ?_
  refine at_pure_g rfl rfl rfl (pv_neqls_same sb_45 rfl rfl rfl) rfl ?_
  refine at_pure (pv_pick_f rfl rfl rfl) rfl ?_
  refine at_pure (pv_move rfl) rfl ?_
  refine at_pure_g rfl rfl rfl (pv_move rfl) rfl ?_
  refine at_pure_g rfl rfl rfl (pv_move rfl) rfl ?_
  refine at_pure_g rfl rfl rfl (pv_neq_same rfl rfl) rfl ?_
  refine at_pure (pv_pick_f rfl rfl rfl) rfl ?_
  refine at_pure (pv_move rfl) rfl ?_
  refine at_pure_g rfl rfl rfl (by exact pv_loads_box ag_38 rfl (.s (.s (.s (.s (.s (.s (.s (.s (.s (.s (.s (.s (.s (.s (.s (.s (.s (.s .z)))))))))))))))))) (.take (.take .done))) rfl ?_
  refine at_pure_g rfl rfl rfl (by exact pv_loads_box ag_38 rfl (.s (.s (.s (.s (.s (.s (.s (.s (.s (.s (.s (.s (.s (.s (.s (.s (.s (.s (.s (.s .z)))))))))))))))))))) (.take (.take .done))) rfl ?_
  refine at_pure_g rfl rfl rfl (pv_neqls_same sb_38 rfl rfl rfl) rfl ?_
  refine at_pure (pv_pick_f rfl rfl rfl) rfl ?_
  refine at_pure (pv_move rfl) rfl ?_
  refine at_pure_g rfl rfl rfl (by exact pv_loads_box ag_45 rfl (.s (.s (.s (.s (.s (.s (.s (.s (.s (.s (.s (.s (.s (.s (.s (.s (.s (.s (.s .z))))))))))))))))))) (.take (.take (.take (.take .done))))) rfl ?_
  refine at_pure_g rfl rfl rfl (by exact pv_loads_box ag_45 rfl (.s (.s (.s (.s (.s (.s (.s (.s (.s (.s (.s (.s (.s (.s (.s (.s (.s (.s (.s (.s (.s .z))))))))))))))))))))) (.take (.take (.take (.take .done))))) rfl ?_
  refine at_pure_g rfl rfl rfl (pv_neqls_same sb_45 rfl rfl rfl) rfl ?_
  refine at_pure (pv_pick_f rfl rfl rfl) rfl ?_
  refine at_pure (pv_move rfl) rfl ?_
  refine at_pure_g rfl rfl rfl (pv_move rfl) rfl ?_
  refine at_pure_g rfl rfl rfl (pv_move rfl) rfl ?_
  refine at_pure_g rfl rfl rfl (pv_neq_same rfl rfl) rfl ?_
  refine at_pure (pv_pick_f rfl rfl rfl) rfl ?_
  refine at_nil ?_
  refine ex_go ?_
  refine cd_else rfl rfl ?_
  refine cd_skip ?_
  refine ex_in_normal (ex_go ?_)
  refine cd_region ?_
  refine at_pure (by first | exact pv_add_n rfl rfl (by unfold In64; omega) | exact pv_add rfl rfl) rfl ?_
  refine at_pure (pv_move rfl) rfl ?_
  refine at_nil ?_
  refine ex_round ?_
  refine cd_seq ?_
  refine cd_region ?_
  refine at_pure (pv_lss rfl rfl) rfl ?_
  refine at_nil ?_
  refine ex_go ?_
  refine cd_seq ?_
  refine cd_else rfl (by decide) ?_
  refine cd_exit ?_
  refine ex_then_exit (ex_then_exit (ex_in (ex_in_normal (ex_go ?_))))
  refine cd_region ?_
  refine at_pure (by first | exact pv_add_n rfl rfl (by unfold In64; omega) | exact pv_add rfl rfl) rfl ?_
  refine at_pure (pv_move rfl) rfl ?_
  refine at_nil ?_
  refine ex_round ?_
  refine cd_seq ?_
  refine cd_region ?_
  refine at_pure (pv_lss rfl rfl) rfl ?_
  refine at_nil ?_
  refine ex_go ?_
  refine cd_seq ?_
  refine cd_then rfl (by decide) ?_
  refine cd_skip ?_
  refine ex_go ?_
  refine cd_seq ?_
  refine cd_block ?_
  refine cd_seq ?_
  refine cd_region ?_
  refine at_pure (pv_indexLit Try.underlying36 cz_3 rfl rfl (by decide) rfl) rfl ?_
  refine at_pure (by exact pv_load ld_3 rfl (box_cell (.s (.s (.s (.s .z)))) (.s .z))) rfl ?_
  refine at_pure (pv_assign rfl) rfl ?_
  refine at_nil ?_
  refine ex_go ?_
  refine cd_seq ?_
  refine cd_region ?_
  refine at_pure (pv_move rfl) rfl ?_
  refine at_pure (pv_move rfl) rfl ?_
  refine at_does (does_val cal12 rfl rfl rfl (fun w hs => mod_any _ _ w (by decide))) rfl (fun _ => ?_)
  refine at_pure (by first | exact pv_add_n rfl rfl (by unfold In64; omega) | exact pv_add rfl rfl) rfl ?_
  refine at_does (does_list (by rfl) (by exact (bs_36_2_0_1 _ _)) (by exact (fun _ => (.cons (.cons (.cons (.cons (.cons (.cons (.cons (.cons (.cons (.cons (.cons (.cons (.cons (.cons (.cons (.cons (.cons (.cons (.cons (.cons (.cons (.cons .nil))))))))))))))))))))))))) rfl (fun g23 => ?_)
  refine at_pure (pv_len Try.underlying36 rfl) rfl ?_
  refine at_pure (pv_move rfl) rfl ?_
  refine at_nil ?_
  refine ex_go ?_
  refine cd_block ?_
  refine cd_rounds 2 ?_
  refine cd_seq ?_
  refine cd_region ?_
  refine at_pure (pv_lss rfl rfl) rfl ?_
  refine at_nil ?_
  refine ex_go ?_
  refine cd_seq ?_
  refine cd_then rfl (by decide) ?_
  refine cd_skip ?_
  refine ex_go ?_
  refine cd_seq ?_
  refine cd_block ?_
  refine cd_seq ?_
  refine cd_region ?_
  refine at_pure (pv_indexLit Try.underlying36 cz_3 rfl rfl (by decide) rfl) rfl ?_
  refine at_pure (by exact pv_load ld_3 rfl (box_cell (.s (.s (.s (.s (.s (.s (.s (.s (.s (.s (.s (.s (.s (.s (.s (.s (.s (.s (.s (.s (.s (.s .z)))))))))))))))))))))) .z)) rfl ?_
  refine at_pure (pv_assign rfl) rfl ?_
  refine at_nil ?_
  refine ex_go ?_
  refine cd_seq ?_
  refine cd_region ?_
  refine at_pure (by exact pv_loads_box ag_38 rfl (.s (.s .z)) (.take (.take .done))) rfl ?_
  refine at_pure (by exact pv_loads_box ag_40 rfl (.s (.s (.s .z))) (.take (.take (.take .done)))) rfl ?_
  refine at_pure (pv_move rfl) rfl ?_
  refine at_pure (pv_move rfl) rfl ?_
  refine at_does (does_val cal23 rfl rfl rfl (fun w hs => step_any _ _ _ _ _ _ _ w)) rfl (fun _ => ?_)
  refine at_pure (pv_move rfl) rfl ?_
  refine at_pure (pv_extract rfl rfl) rfl ?_
  refine at_pure (pv_extract rfl rfl) rfl ?_
  refine at_pure (pv_extract rfl rfl) rfl ?_
  refine at_does (does_alloc ze_38 .agg (fun _ => (.cons (.cons (.cons (.cons (.cons (.cons (.cons (.cons (.cons (.cons (.cons (.cons (.cons (.cons (.cons (.cons (.cons (.cons (.cons (.cons (.cons (.cons (.cons .nil))))))))))))))))))))))))) rfl (fun g24 => ?_)
  refine at_does (does_alloc ze_45 .agg (fun _ => (.cons (.cons (.cons (.cons (.cons (.cons (.cons (.cons (.cons (.cons (.cons (.cons (.cons (.cons (.cons (.cons (.cons (.cons (.cons (.cons (.cons (.cons (.cons (.cons .nil)))))))))))))))))))))))))) rfl (fun g25 => ?_)
  refine at_turns (by exact turns_store sz_38 rfl rfl .agg rfl rfl (.s (.s (.s (.s (.s (.s (.s (.s (.s (.s (.s (.s (.s (.s (.s (.s (.s (.s (.s (.s (.s (.s (.s .z))))))))))))))))))))))) (.rep (.rep .done)) (.s (.s (.s (.s (.s (.s (.s (.s (.s (.s (.s (.s (.s (.s (.s (.s (.s (.s (.s (.s (.s (.s (.s .z)))))))))))))))))))))))) ?_
  refine at_turns (by exact turns_store sz_45 rfl rfl .agg rfl rfl (.s (.s (.s (.s (.s (.s (.s (.s (.s (.s (.s (.s (.s (.s (.s (.s (.s (.s (.s (.s (.s (.s (.s (.s .z)))))))))))))))))))))))) (.rep (.rep (.rep (.rep .done)))) (.s (.s (.s (.s (.s (.s (.s (.s (.s (.s (.s (.s (.s (.s (.s (.s (.s (.s (.s (.s (.s (.s (.s (.s .z))))))))))))))))))))))))) ?_
  refine at_pure (pv_assign rfl) rfl ?_
  refine at_nil ?_
  refine ex_go ?_
  refine cd_seq ?_
  refine cd_region ?_
  refine at_pure (by exact pv_loads_box ag_38 rfl (.s (.s .z)) (.take (.take .done))) rfl ?_
  refine at_pure (by exact pv_loads_box ag_40 rfl (.s (.s (.s .z))) (.take (.take (.take .done)))) rfl ?_
  refine at_pure (pv_move rfl) rfl ?_
  refine at_pure (pv_move rfl) rfl ?_
  refine at_does (does_val cal24 rfl rfl rfl (fun w hs => step_ref _ _ _ _ _ _ _ w)) rfl (fun _ => ?_)
  refine at_pure (pv_move rfl) rfl ?_
  refine at_pure (pv_extract rfl rfl) rfl ?_
  refine at_pure (pv_extract rfl rfl) rfl ?_
  refine at_pure (pv_extract rfl rfl) rfl ?_
  refine at_does (does_alloc ze_38 .agg (fun _ => (.cons (.cons (.cons (.cons (.cons (.cons (.cons (.cons (.cons (.cons (.cons (.cons (.cons (.cons (.cons (.cons (.cons (.cons (.cons (.cons (.cons (.cons (.cons (.cons (.cons .nil))))))))))))))))))))))))))) rfl (fun g26 => ?_)
  refine at_does (does_alloc ze_45 .agg (fun _ => (.cons (.cons (.cons (.cons (.cons (.cons (.cons (.cons (.cons (.cons (.cons (.cons (.cons (.cons (.cons (.cons (.cons (.cons (.cons (.cons (.cons (.cons (.cons (.cons (.cons (.cons .nil)))))))))))))))))))))))))))) rfl (fun g27 => ?_)
  refine at_turns (by exact turns_store sz_38 rfl rfl .agg rfl rfl (.s (.s (.s (.s (.s (.s (.s (.s (.s (.s (.s (.s (.s (.s (.s (.s (.s (.s (.s (.s (.s (.s (.s (.s (.s .z))))))))))))))))))))))))) (.rep (.rep .done)) (.s (.s (.s (.s (.s (.s (.s (.s (.s (.s (.s (.s (.s (.s (.s (.s (.s (.s (.s (.s (.s (.s (.s (.s (.s .z)))))))))))))))))))))))))) ?_
  refine at_turns (by exact turns_store sz_45 rfl rfl .agg rfl rfl (.s (.s (.s (.s (.s (.s (.s (.s (.s (.s (.s (.s (.s (.s (.s (.s (.s (.s (.s (.s (.s (.s (.s (.s (.s (.s .z)))))))))))))))))))))))))) (.rep (.rep (.rep (.rep .done)))) (.s (.s (.s (.s (.s (.s (.s (.s (.s (.s (.s (.s (.s (.s (.s (.s (.s (.s (.s (.s (.s (.s (.s (.s (.s (.s .z))))))))))))))))))))))))))) ?_
  refine at_pure (pv_assign rfl) rfl ?_
  refine at_nil ?_
  refine ex_go ?_
  refine cd_seq ?_
  refine cd_region ?_
  refine at_pure (by exact pv_loads_box ag_38 rfl .z (.take (.take .done))) rfl ?_
  refine at_pure (by exact pv_loads_box ag_40 rfl (.s .z) (.take (.take (.take .done)))) rfl ?_
  refine at_pure (pv_move rfl) rfl ?_
  refine at_pure (pv_move rfl) rfl ?_
  refine at_does (does_val cal23 rfl rfl rfl (fun w hs => step_any _ _ _ _ _ _ _ w)) rfl (fun _ => ?_)
  refine at_pure (pv_move rfl) rfl ?_
  refine at_pure (pv_extract rfl rfl) rfl ?_
  refine at_pure (pv_extract rfl rfl) rfl ?_
  refine at_pure (pv_extract rfl rfl) rfl ?_
  refine at_does (does_alloc ze_38 .agg (fun _ => (.cons (.cons (.cons (.cons (.cons (.cons (.cons (.cons (.cons (.cons (.cons (.cons (.cons (.cons (.cons (.cons (.cons (.cons (.cons (.cons (.cons (.cons (.cons (.cons (.cons (.cons (.cons .nil))))))))))))))))))))))))))))) rfl (fun g28 => ?_)
  refine at_does (does_alloc ze_45 .agg (fun _ => (.cons (.cons (.cons (.cons (.cons (.cons (.cons (.cons (.cons (.cons (.cons (.cons (.cons (.cons (.cons (.cons (.cons (.cons (.cons (.cons (.cons (.cons (.cons (.cons (.cons (.cons (.cons (.cons .nil)))))))))))))))))))))))))))))) rfl (fun g29 => ?_)
  refine at_turns (by exact turns_store sz_38 rfl rfl .agg rfl rfl (.s (.s (.s (.s (.s (.s (.s (.s (.s (.s (.s (.s (.s (.s (.s (.s (.s (.s (.s (.s (.s (.s (.s (.s (.s (.s (.s .z))))))))))))))))))))))))))) (.rep (.rep .done)) (.s (.s (.s (.s (.s (.s (.s (.s (.s (.s (.s (.s (.s (.s (.s (.s (.s (.s (.s (.s (.s (.s (.s (.s (.s (.s (.s .z)))))))))))))))))))))))))))) ?_
  refine at_turns (by exact turns_store sz_45 rfl rfl .agg rfl rfl (.s (.s (.s (.s (.s (.s (.s (.s (.s (.s (.s (.s (.s (.s (.s (.s (.s (.s (.s (.s (.s (.s (.s (.s (.s (.s (.s (.s .z)))))))))))))))))))))))))))) (.rep (.rep (.rep (.rep .done)))) (.s (.s (.s (.s (.s (.s (.s (.s (.s (.s (.s (.s (.s (.s (.s (.s (.s (.s (.s (.s (.s (.s (.s (.s (.s (.s (.s (.s .z))))))))))))))))))))))))))))) ?_
  refine at_pure (pv_assign rfl) rfl ?_
  refine at_nil ?_
  refine ex_go ?_
  refine cd_seq ?_
  refine cd_region ?_
  refine at_pure (by exact pv_loads_box ag_38 rfl .z (.take (.take .done))) rfl ?_
  refine at_pure (by exact pv_loads_box ag_40 rfl (.s .z) (.take (.take (.take .done)))) rfl ?_
  refine at_pure (pv_move rfl) rfl ?_
  refine at_pure (pv_move rfl) rfl ?_
  refine at_does (does_val cal24 rfl rfl rfl (fun w hs => step_ref _ _ _ _ _ _ _ w)) rfl (fun _ => ?_)
  refine at_pure (pv_move rfl) rfl ?_
  refine at_pure (pv_extract rfl rfl) rfl ?_
  refine at_pure (pv_extract rfl rfl) rfl ?_
  refine at_pure (pv_extract rfl rfl) rfl ?_
  refine at_does (does_alloc ze_38 .agg (fun _ => (.cons (.cons (.cons (.cons (.cons (.cons (.cons (.cons (.cons (.cons (.cons (.cons (.cons (.cons (.cons (.cons (.cons (.cons (.cons (.cons (.cons (.cons (.cons (.cons (.cons (.cons (.cons (.cons (.cons .nil))))))))))))))))))))))))))))))) rfl (fun g30 => ?_)
  refine at_does (does_alloc ze_45 .agg (fun _ => (.cons (.cons (.cons (.cons (.cons (.cons (.cons (.cons (.cons (.cons (.cons (.cons (.cons (.cons (.cons (.cons (.cons (.cons (.cons (.cons (.cons (.cons (.cons (.cons (.cons (.cons (.cons (.cons (.cons (.cons .nil)))))))))))))))))))))))))))))))) rfl (fun g31 => ?_)
  refine at_turns (by exact turns_store sz_38 rfl rfl .agg rfl rfl (.s (.s (.s (.s (.s (.s (.s (.s (.s (.s (.s (.s (.s (.s (.s (.s (.s (.s (.s (.s (.s (.s (.s (.s (.s (.s (.s (.s (.s .z))))))))))))))))))))))))))))) (.rep (.rep .done)) (.s (.s (.s (.s (.s (.s (.s (.s (.s (.s (.s (.s (.s (.s (.s (.s (.s (.s (.s (.s (.s (.s (.s (.s (.s (.s (.s (.s (.s .z)))))))))))))))))))))))))))))) ?_
  refine at_turns (by exact turns_store sz_45 rfl rfl .agg rfl rfl (.s (.s (.s (.s (.s (.s (.s (.s (.s (.s (.s (.s (.s (.s (.s (.s (.s (.s (.s (.s (.s (.s (.s (.s (.s (.s (.s (.s (.s (.s .z)))))))))))))))))))))))))))))) (.rep (.rep (.rep (.rep .done)))) (.s (.s (.s (.s (.s (.s (.s (.s (.s (.s (.s (.s (.s (.s (.s (.s (.s (.s (.s (.s (.s (.s (.s (.s (.s (.s (.s (.s (.s (.s .z))))))))))))))))))))))))))))))) ?_
  refine at_pure (pv_assign rfl) rfl ?_
  refine at_nil ?_
  refine ex_go ?_
  refine cd_seq ?_
  refine cd_region ?_
  refine at_pure (by exact pv_loads_box ag_38 rfl (.s (.s (.s (.s (.s (.s (.s (.s (.s (.s (.s (.s (.s (.s (.s (.s (.s (.s (.s (.s (.s (.s (.s .z))))))))))))))))))))))) (.take (.take .done))) rfl ?_
  refine at_pure (by exact pv_loads_box ag_38 rfl (.s (.s (.s (.s (.s (.s (.s (.s (.s (.s (.s (.s (.s (.s (.s (.s (.s (.s (.s (.s (.s (.s (.s (.s (.s .z))))))))))))))))))))))))) (.take (.take .done))) rfl ?_
  refine at_pure (pv_neqls_same sb_38 rfl rfl rfl) rfl ?_
  refine at_pure (pv_move rfl) rfl ?_
  refine at_pure_g rfl rfl rfl (by exact pv_loads_box ag_45 rfl (.s (.s (.s (.s (.s (.s (.s (.s (.s (.s (.s (.s (.s (.s (.s (.s (.s (.s (.s (.s (.s (.s (.s (.s .z)))))))))))))))))))))))) (.take (.take (.take (.take .done))))) rfl ?_
  refine at_pure_g rfl rfl rfl (by exact pv_loads_box ag_45 rfl (.s (.s (.s (.s (.s (.s (.s (.s (.s (.s (.s (.s (.s (.s (.s (.s (.s (.s (.s (.s (.s (.s (.s (.s (.s (.s .z)))))))))))))))))))))))))) (.take (.take (.take (.take .done))))) rfl ?_
  refine at_pure_g rfl rfl rfl (pv_neqls_same sb_45 rfl rfl rfl) rfl ?_
  refine at_pure (pv_pick_f rfl rfl rfl) rfl ?_
  refine at_pure (pv_move rfl) rfl ?_
  refine at_pure_g rfl rfl rfl (pv_move rfl) rfl ?_
  refine at_pure_g rfl rfl rfl (pv_move rfl) rfl ?_
  refine at_pure_g rfl rfl rfl (pv_neq_same rfl rfl) rfl ?_
  refine at_pure (pv_pick_f rfl rfl rfl) rfl ?_
  refine at_pure (pv_move rfl) rfl ?_
  refine at_pure_g rfl rfl rfl (by exact pv_loads_box ag_38 rfl (.s (.s (.s (.s (.s (.s (.s (.s (.s (.s (.s (.s (.s (.s (.s (.s (.s (.s (.s (.s (.s (.s (.s (.s (.s (.s (.s .z))))))))))))))))))))))))))) (.take (.take .done))) rfl ?_
  refine at_pure_g rfl rfl rfl (by exact pv_loads_box ag_38 rfl (.s (.s (.s (.s (.s (.s (.s (.s (.s (.s (.s (.s (.s (.s (.s (.s (.s (.s (.s (.s (.s (.s (.s (.s (.s (.s (.s (.s (.s .z))))))))))))))))))))))))))))) (.take (.take .done))) rfl ?_
  refine at_pure_g rfl rfl rfl (pv_neqls_same sb_38 rfl rfl rfl) rfl ?_
  refine at_pure (pv_pick_f rfl rfl rfl) rfl ?_
  refine at_pure (pv_move rfl) rfl ?_
  refine at_pure_g rfl rfl rfl (by exact pv_loads_box ag_45 rfl (.s (.s (.s (.s (.s (.s (.s (.s (.s (.s (.s (.s (.s (.s (.s (.s (.s (.s (.s (.s (.s (.s (.s (.s (.s (.s (.s (.s .z)))))))))))))))))))))))))))) (.take (.take (.take (.take .done))))) rfl ?_
  refine at_pure_g rfl rfl rfl (by exact pv_loads_box ag_45 rfl (.s (.s (.s (.s (.s (.s (.s (.s (.s (.s (.s (.s (.s (.s (.s (.s (.s (.s (.s (.s (.s (.s (.s (.s (.s (.s (.s (.s (.s (.s .z)))))))))))))))))))))))))))))) (.take (.take (.take (.take .done))))) rfl ?_
  refine at_pure_g rfl rfl rfl (pv_neqls_same sb_45 rfl rfl rfl) rfl ?_
  refine at_pure (pv_pick_f rfl rfl rfl) rfl ?_
  refine at_pure (pv_move rfl) rfl ?_
  refine at_pure_g rfl rfl rfl (pv_move rfl) rfl ?_
  refine at_pure_g rfl rfl rfl (pv_move rfl) rfl ?_
  refine at_pure_g rfl rfl rfl (pv_neq_same rfl rfl) rfl ?_
  refine at_pure (pv_pick_f rfl rfl rfl) rfl ?_
  refine at_nil ?_
  refine ex_go ?_
  refine cd_else rfl rfl ?_
  refine cd_skip ?_
  refine ex_in_normal (ex_go ?_)
  refine cd_region ?_
  refine at_pure (by first | exact pv_add_n rfl rfl (by unfold In64; omega) | exact pv_add rfl rfl) rfl ?_
  refine at_pure (pv_move rfl) rfl ?_
  refine at_nil ?_
  refine ex_round ?_
  refine cd_seq ?_
  refine cd_region ?_
  refine at_pure (pv_lss rfl rfl) rfl ?_
  refine at_nil ?_
  refine ex_go ?_
  refine cd_seq ?_
  refine cd_then rfl (by decide) ?_
  refine cd_skip ?_
  refine ex_go ?_
  refine cd_seq ?_
  refine cd_block ?_
  refine cd_seq ?_
  refine cd_region ?_
  refine at_pure (pv_indexLit Try.underlying36 cz_3 rfl rfl (by decide) rfl) rfl ?_
  refine at_pure (by exact pv_load ld_3 rfl (box_cell (.s (.s (.s (.s (.s (.s (.s (.s (.s (.s (.s (.s (.s (.s (.s (.s (.s (.s (.s (.s (.s (.s .z)))))))))))))))))))))) (.s .z))) rfl ?_
  refine at_pure (pv_assign rfl) rfl ?_
  refine at_nil ?_
  refine ex_go ?_
  refine cd_seq ?_
  refine cd_region ?_
  refine at_pure (by exact pv_loads_box ag_38 rfl (.s (.s .z)) (.take (.take .done))) rfl ?_
  refine at_pure (by exact pv_loads_box ag_40 rfl (.s (.s (.s .z))) (.take (.take (.take .done)))) rfl ?_
  refine at_pure (pv_move rfl) rfl ?_
  refine at_pure (pv_move rfl) rfl ?_
  refine at_does (does_val cal23 rfl rfl rfl (fun w hs => step_any _ _ _ _ _ _ _ w)) rfl (fun _ => ?_)
  refine at_pure (pv_move rfl) rfl ?_
  refine at_pure (pv_extract rfl rfl) rfl ?_
  refine at_pure (pv_extract rfl rfl) rfl ?_
  refine at_pure (pv_extract rfl rfl) rfl ?_
  refine at_does (does_alloc ze_38 .agg (fun _ => (.cons (.cons (.cons (.cons (.cons (.cons (.cons (.cons (.cons (.cons (.cons (.cons (.cons (.cons (.cons (.cons (.cons (.cons (.cons (.cons (.cons (.cons (.cons (.cons (.cons (.cons (.cons (.cons (.cons (.cons (.cons .nil))))))))))))))))))))))))))))))))) rfl (fun g32 => ?_)
  refine at_does (does_alloc ze_45 .agg (fun _ => (.cons (.cons (.cons (.cons (.cons (.cons (.cons (.cons (.cons (.cons (.cons (.cons (.cons (.cons (.cons (.cons (.cons (.cons (.cons (.cons (.cons (.cons (.cons (.cons (.cons (.cons (.cons (.cons (.cons (.cons (.cons (.cons .nil)))))))))))))))))))))))))))))))))) rfl (fun g33 => ?_)
  refine at_turns (by exact turns_store sz_38 rfl rfl .agg rfl rfl (.s (.s (.s (.s (.s (.s (.s (.s (.s (.s (.s (.s (.s (.s (.s (.s (.s (.s (.s (.s (.s (.s (.s (.s (.s (.s (.s (.s (.s (.s (.s .z))))))))))))))))))))))))))))))) (.rep (.rep .done)) (.s (.s (.s (.s (.s (.s (.s (.s (.s (.s (.s (.s (.s (.s (.s (.s (.s (.s (.s (.s (.s (.s (.s (.s (.s (.s (.s (.s (.s (.s (.s .z)))))))))))))))))))))))))))))))) ?_
  refine at_turns (by exact turns_store sz_45 rfl rfl .agg rfl rfl (.s (.s (.s (.s (.s (.s (.s (.s (.s (.s (.s (.s (.s (.s (.s (.s (.s (.s (.s (.s (.s (.s (.s (.s (.s (.s (.s (.s (.s (.s (.s (.s .z)))))))))))))))))))))))))))))))) (.rep (.rep (.rep (.rep .done)))) (.s (.s (.s (.s (.s (.s (.s (.s (.s (.s (.s (.s (.s (.s (.s (.s (.s (.s (.s (.s (.s (.s (.s (.s (.s (.s (.s (.s (.s (.s (.s (.s .z))))))))))))))))))))))))))))))))) ?_
  refine at_pure (pv_assign rfl) rfl ?_
  refine at_nil ?_
  refine ex_go ?_
  refine cd_seq ?_
  refine cd_region ?_
  refine at_pure (by exact pv_loads_box ag_38 rfl (.s (.s .z)) (.take (.take .done))) rfl ?_
  refine at_pure (by exact pv_loads_box ag_40 rfl (.s (.s (.s .z))) (.take (.take (.take .done)))) rfl ?_
  refine at_pure (pv_move rfl) rfl ?_
  refine at_pure (pv_move rfl) rfl ?_
  refine at_does (does_val cal24 rfl rfl rfl (fun w hs => step_ref _ _ _ _ _ _ _ w)) rfl (fun _ => ?_)
  refine at_pure (pv_move rfl) rfl ?_
  refine at_pure (pv_extract rfl rfl) rfl ?_
  refine at_pure (pv_extract rfl rfl) rfl ?_
  refine at_pure (pv_extract rfl rfl) rfl ?_
  refine at_does (does_alloc ze_38 .agg (fun _ => (.cons (.cons (.cons (.cons (.cons (.cons (.cons (.cons (.cons (.cons (.cons (.cons (.cons (.cons (.cons (.cons (.cons (.cons (.cons (.cons (.cons (.cons (.cons (.cons (.cons (.cons (.cons (.cons (.cons (.cons (.cons (.cons (.cons .nil))))))))))))))))))))))))))))))))))) rfl (fun g34 => ?_)
  refine at_does (does_alloc ze_45 .agg (fun _ => (.cons (.cons (.cons (.cons (.cons (.cons (.cons (.cons (.cons (.cons (.cons (.cons (.cons (.cons (.cons (.cons (.cons (.cons (.cons (.cons (.cons (.cons (.cons (.cons (.cons (.cons (.cons (.cons (.cons (.cons (.cons (.cons (.cons (.cons .nil)))))))))))))))))))))))))))))))))))) rfl (fun g35 => ?_)
  refine at_turns (by exact turns_store sz_38 rfl rfl .agg rfl rfl (.s (.s (.s (.s (.s (.s (.s (.s (.s (.s (.s (.s (.s (.s (.s (.s (.s (.s (.s (.s (.s (.s (.s (.s (.s (.s (.s (.s (.s (.s (.s (.s (.s .z))))))))))))))))))))))))))))))))) (.rep (.rep .done)) (.s (.s (.s (.s (.s (.s (.s (.s (.s (.s (.s (.s (.s (.s (.s (.s (.s (.s (.s (.s (.s (.s (.s (.s (.s (.s (.s (.s (.s (.s (.s (.s (.s .z)))))))))))))))))))))))))))))))))) ?_
  refine at_turns (by exact turns_store sz_45 rfl rfl .agg rfl rfl (.s (.s (.s (.s (.s (.s (.s (.s (.s (.s (.s (.s (.s (.s (.s (.s (.s (.s (.s (.s (.s (.s (.s (.s (.s (.s (.s (.s (.s (.s (.s (.s (.s (.s .z)))))))))))))))))))))))))))))))))) (.rep (.rep (.rep (.rep .done)))) (.s (.s (.s (.s (.s (.s (.s (.s (.s (.s (.s (.s (.s (.s (.s (.s (.s (.s (.s (.s (.s (.s (.s (.s (.s (.s (.s (.s (.s (.s (.s (.s (.s (.s .z))))))))))))))))))))))))))))))))))) ?_
  refine at_pure (pv_assign rfl) rfl ?_
  refine at_nil ?_
  refine ex_go ?_
  refine cd_seq ?_
  refine cd_region ?_
  refine at_pure (by exact pv_loads_box ag_38 rfl .z (.take (.take .done))) rfl ?_
  refine at_pure (by exact pv_loads_box ag_40 rfl (.s .z) (.take (.take (.take .done)))) rfl ?_
  refine at_pure (pv_move rfl) rfl ?_
  refine at_pure (pv_move rfl) rfl ?_
  refine at_does (does_val cal23 rfl rfl rfl (fun w hs => step_any _ _ _ _ _ _ _ w)) rfl (fun _ => ?_)
  refine at_pure (pv_move rfl) rfl ?_
  refine at_pure (pv_extract rfl rfl) rfl ?_
  refine at_pure (pv_extract rfl rfl) rfl ?_
  refine at_pure (pv_extract rfl rfl) rfl ?_
  refine at_does (does_alloc ze_38 .agg (fun _ => (.cons (.cons (.cons (.cons (.cons (.cons (.cons (.cons (.cons (.cons (.cons (.cons (.cons (.cons (.cons (.cons (.cons (.cons (.cons (.cons (.cons (.cons (.cons (.cons (.cons (.cons (.cons (.cons (.cons (.cons (.cons (.cons (.cons (.cons (.cons .nil))))))))))))))))))))))))))))))))))))) rfl (fun g36 => ?_)
  refine at_does (does_alloc ze_45 .agg (fun _ => (.cons (.cons (.cons (.cons (.cons (.cons (.cons (.cons (.cons (.cons (.cons (.cons (.cons (.cons (.cons (.cons (.cons (.cons (.cons (.cons (.cons (.cons (.cons (.cons (.cons (.cons (.cons (.cons (.cons (.cons (.cons (.cons (.cons (.cons (.cons (.cons .nil)))))))))))))))))))))))))))))))))))))) rfl (fun g37 => ?_)
  refine at_turns (by exact turns_store sz_38 rfl rfl .agg rfl rfl (.s (.s (.s (.s (.s (.s (.s (.s (.s (.s (.s (.s (.s (.s (.s (.s (.s (.s (.s (.s (.s (.s (.s (.s (.s (.s (.s (.s (.s (.s (.s (.s (.s (.s (.s .z))))))))))))))))))))))))))))))))))) (.rep (.rep .done)) (.s (.s (.s (.s (.s (.s (.s (.s (.s (.s (.s (.s (.s (.s (.s (.s (.s (.s (.s (.s (.s (.s (.s (.s (.s (.s (.s (.s (.s (.s (.s (.s (.s (.s (.s .z)))))))))))))))))))))))))))))))))))) ?_
  refine at_turns (by exact turns_store sz_45 rfl rfl .agg rfl rfl (.s (.s (.s (.s (.s (.s (.s (.s (.s (.s (.s (.s (.s (.s (.s (.s (.s (.s (.s (.s (.s (.s (.s (.s (.s (.s (.s (.s (.s (.s (.s (.s (.s (.s (.s (.s .z)))))))))))))))))))))))))))))))))))) (.rep (.rep (.rep (.rep .done)))) (.s (.s (.s (.s (.s (.s (.s (.s (.s (.s (.s (.s (.s (.s (.s (.s (.s (.s (.s (.s (.s (.s (.s (.s (.s (.s (.s (.s (.s (.s (.s (.s (.s (.s (.s (.s .z))))))))))))))))))))))))))))))))))))) ?_
  refine at_pure (pv_assign rfl) rfl ?_
  refine at_nil ?_
  refine ex_go ?_
  refine cd_seq ?_
  refine cd_region ?_
  refine at_pure (by exact pv_loads_box ag_38 rfl .z (.take (.take .done))) rfl ?_
  refine at_pure (by exact pv_loads_box ag_40 rfl (.s .z) (.take (.take (.take .done)))) rfl ?_
  refine at_pure (pv_move rfl) rfl ?_
  refine at_pure (pv_move rfl) rfl ?_
  refine at_does (does_val cal24 rfl rfl rfl (fun w hs => step_ref _ _ _ _ _ _ _ w)) rfl (fun _ => ?_)
  refine at_pure (pv_move rfl) rfl ?_
  refine at_pure (pv_extract rfl rfl) rfl ?_
  refine at_pure (pv_extract rfl rfl) rfl ?_
  refine at_pure (pv_extract rfl rfl) rfl ?_
  refine at_does (does_alloc ze_38 .agg (fun _ => (.cons (.cons (.cons (.cons (.cons (.cons (.cons (.cons (.cons (.cons (.cons (.cons (.cons (.cons (.cons (.cons (.cons (.cons (.cons (.cons (.cons (.cons (.cons (.cons (.cons (.cons (.cons (.cons (.cons (.cons (.cons (.cons (.cons (.cons (.cons (.cons (.cons .nil))))))))))))))))))))))))))))))))))))))) rfl (fun g38 => ?_)
  refine at_does (does_alloc ze_45 .agg (fun _ => (.cons (.cons (.cons (.cons (.cons (.cons (.cons (.cons (.cons (.cons (.cons (.cons (.cons (.cons (.cons (.cons (.cons (.cons (.cons (.cons (.cons (.cons (.cons (.cons (.cons (.cons (.cons (.cons (.cons (.cons (.cons (.cons (.cons (.cons (.cons (.cons (.cons (.cons .nil)))))))))))))))))))))))))))))))))))))))) rfl (fun g39 => ?_)
  refine at_turns (by exact turns_store sz_38 rfl rfl .agg rfl rfl (.s (.s (.s (.s (.s (.s (.s (.s (.s (.s (.s (.s (.s (.s (.s (.s (.s (.s (.s (.s (.s (.s (.s (.s (.s (.s (.s (.s (.s (.s (.s (.s (.s (.s (.s (.s (.s .z))))))))))))))))))))))))))))))))))))) (.rep (.rep .done)) (.s (.s (.s (.s (.s (.s (.s (.s (.s (.s (.s (.s (.s (.s (.s (.s (.s (.s (.s (.s (.s (.s (.s (.s (.s (.s (.s (.s (.s (.s (.s (.s (.s (.s (.s (.s (.s .z)))))))))))))))))))))))))))))))))))))) ?_
  refine at_turns (by exact turns_store sz_45 rfl rfl .agg rfl rfl (.s (.s (.s (.s (.s (.s (.s (.s (.s (.s (.s (.s (.s (.s (.s (.s (.s (.s (.s (.s (.s (.s (.s (.s (.s (.s (.s (.s (.s (.s (.s (.s (.s (.s (.s (.s (.s (.s .z)))))))))))))))))))))))))))))))))))))) (.rep (.rep (.rep (.rep .done)))) (.s (.s (.s (.s (.s (.s (.s (.s (.s (.s (.s (.s (.s (.s (.s (.s (.s (.s (.s (.s (.s (.s (.s (.s (.s (.s (.s (.s (.s (.s (.s (.s (.s (.s (.s (.s (.s (.s .z))))))))))))))))))))))))))))))))))))))) ?_
  refine at_pure (pv_assign rfl) rfl ?_
  refine at_nil ?_
  refine ex_go ?_
  refine cd_seq ?_
  refine cd_region ?_
  refine at_pure (by exact pv_loads_box ag_38 rfl (.s (.s (.s (.s (.s (.s (.s (.s (.s (.s (.s (.s (.s (.s (.s (.s (.s (.s (.s (.s (.s (.s (.s (.s (.s (.s (.s (.s (.s (.s (.s .z))))))))))))))))))))))))))))))) (.take (.take .done))) rfl ?_
  refine at_pure (by exact pv_loads_box ag_38 rfl (.s (.s (.s (.s (.s (.s (.s (.s (.s (.s (.s (.s (.s (.s (.s (.s (.s (.s (.s (.s (.s (.s (.s (.s (.s (.s (.s (.s (.s (.s (.s (.s (.s .z))))))))))))))))))))))))))))))))) (.take (.take .done))) rfl ?_
  refine at_pure (pv_neqls_same sb_38 rfl rfl rfl) rfl ?_
  refine at_pure (pv_move rfl) rfl ?_
  refine at_pure_g rfl rfl rfl (by exact pv_loads_box ag_45 rfl (.s (.s (.s (.s (.s (.s (.s (.s (.s (.s (.s (.s (.s (.s (.s (.s (.s (.s (.s (.s (.s (.s (.s (.s (.s (.s (.s (.s (.s (.s (.s (.s .z)))))))))))))))))))))))))))))))) (.take (.take (.take (.take .done))))) rfl ?_
  refine at_pure_g rfl rfl rfl (by exact pv_loads_box ag_45 rfl (.s (.s (.s (.s (.s (.s (.s (.s (.s (.s (.s (.s (.s (.s (.s (.s (.s (.s (.s (.s (.s (.s (.s (.s (.s (.s (.s (.s (.s (.s (.s (.s (.s (.s .z)))))))))))))))))))))))))))))))))) (.take (.take (.take (.take .done))))) rfl ?_
  refine at_pure_g rfl rfl rfl (pv_neqls_same sb_45 rfl rfl rfl) rfl ?_
  refine at_pure (pv_pick_f rfl rfl rfl) rfl ?_
  refine at_pure (pv_move rfl) rfl ?_
  refine at_pure_g rfl rfl rfl (pv_move rfl) rfl ?_
  refine at_pure_g rfl rfl rfl (pv_move rfl) rfl ?_
  refine at_pure_g rfl rfl rfl (pv_neq_same rfl rfl) rfl ?_
  refine at_pure (pv_pick_f rfl rfl rfl) rfl ?_
  refine at_pure (pv_move rfl) rfl ?_
  refine at_pure_g rfl rfl rfl (by exact pv_loads_box ag_38 rfl (.s (.s (.s (.s (.s (.s (.s (.s (.s (.s (.s (.s (.s (.s (.s (.s (.s (.s (.s (.s (.s (.s (.s (.s (.s (.s (.s (.s (.s (.s (.s (.s (.s (.s (.s .z))))))))))))))))))))))))))))))))))) (.take (.take .done))) rfl ?_
  refine at_pure_g rfl rfl rfl (by exact pv_loads_box ag_38 rfl (.s (.s (.s (.s (.s (.s (.s (.s (.s (.s (.s (.s (.s (.s (.s (.s (.s (.s (.s (.s (.s (.s (.s (.s (.s (.s (.s (.s (.s (.s (.s (.s (.s (.s (.s (.s (.s .z))))))))))))))))))))))))))))))))))))) (.take (.take .done))) rfl ?_
  refine at_pure_g rfl rfl rfl (pv_neqls_same sb_38 rfl rfl rfl) rfl ?_
  refine at_pure (pv_pick_f rfl rfl rfl) rfl ?_
  refine at_pure (pv_move rfl) rfl ?_
  refine at_pure_g rfl rfl rfl (by exact pv_loads_box ag_45 rfl (.s (.s (.s (.s (.s (.s (.s (.s (.s (.s (.s (.s (.s (.s (.s (.s (.s (.s (.s (.s (.s (.s (.s (.s (.s (.s (.s (.s (.s (.s (.s (.s (.s (.s (.s (.s .z)))))))))))))))))))))))))))))))))))) (.take (.take (.take (.take .done))))) rfl ?_
  refine at_pure_g rfl rfl rfl (by exact pv_loads_box ag_45 rfl (.s (.s (.s (.s (.s (.s (.s (.s (.s (.s (.s (.s (.s (.s (.s (.s (.s (.s (.s (.s (.s (.s (.s (.s (.s (.s (.s (.s (.s (.s (.s (.s (.s (.s (.s (.s (.s (.s .z)))))))))))))))))))))))))))))))))))))) (.take (.take (.take (.take .done))))) rfl ?_
  refine at_pure_g rfl rfl rfl (pv_neqls_same sb_45 rfl rfl rfl) rfl ?_
  refine at_pure (pv_pick_f rfl rfl rfl) rfl ?_
  refine at_pure (pv_move rfl) rfl ?_
  refine at_pure_g rfl rfl rfl (pv_move rfl) rfl ?_
  refine at_pure_g rfl rfl rfl (pv_move rfl) rfl ?_
  refine at_pure_g rfl rfl rfl (pv_neq_same rfl rfl) rfl ?_
  refine at_pure (pv_pick_f rfl rfl rfl) rfl ?_
  refine at_nil ?_
  refine ex_go ?_
  refine cd_else rfl rfl ?_
  refine cd_skip ?_
  refine ex_in_normal (ex_go ?_)
  refine cd_region ?_
  refine at_pure (by first | exact pv_add_n rfl rfl (by unfold In64; omega) | exact pv_add rfl rfl) rfl ?_
  refine at_pure (pv_move rfl) rfl ?_
  refine at_nil ?_
  refine ex_round ?_
  refine cd_seq ?_
  refine cd_region ?_
  refine at_pure (pv_lss rfl rfl) rfl ?_
  refine at_nil ?_
  refine ex_go ?_
  refine cd_seq ?_
  refine cd_else rfl (by decide) ?_
  refine cd_exit ?_
  refine ex_then_exit (ex_then_exit (ex_in (ex_in_normal (ex_go ?_))))
  refine cd_region ?_
  refine at_pure (by first | exact pv_add_n rfl rfl (by unfold In64; omega) | exact pv_add rfl rfl) rfl ?_
  refine at_pure (pv_move rfl) rfl ?_
  refine at_nil ?_
  refine ex_round ?_
  refine cd_seq ?_
  refine cd_region ?_
  refine at_pure (pv_lss rfl rfl) rfl ?_
  refine at_nil ?_
  refine ex_go ?_
  refine cd_seq ?_
  refine cd_else rfl (by decide) ?_
  refine cd_exit ?_
  refine ex_then_exit (ex_then_exit (ex_in (ex_go ?_)))
  refine cd_seq ?_
  refine cd_region ?_
  refine at_pure (pv_assign rfl) rfl ?_
  refine at_nil ?_
  refine ex_go ?_
  refine cd_ret ?_
  exact end_ret1 rfl rfl (fun w hs => Val.mk hs)

end Go.Proofs.Ytaflnbnikabeaaa.Duck
