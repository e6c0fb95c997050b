/- The walks of the client's functions of this seat: what each hands back. -/
import Derived.Test.YtaflnbnikabeaaaClientF
set_option linter.unusedVariables false
set_option linter.unusedSimpArgs false
namespace Go.Proofs.Ytaflnbnikabeaaa.Client
open Go Go.RowKit Go.Proofs.YtaflnbnikabeaaaV Go.Proofs.Ytaflnbnikabeaaa
theorem emod_of (x y : Int) (hy : 0 < y) : x % y = if x.tmod y < 0 then x.tmod y + y else x.tmod y := by
  have h := Int.tmod_eq_emod (a := x) (b := y)
  have h1 := Int.emod_nonneg x (show y ≠ 0 by omega)
  have h2 := Int.emod_lt_of_pos x hy
  by_cases c : 0 ≤ x ∨ y ∣ x
  · rw [if_pos c] at h; rw [if_neg (by omega)]; omega
  · rw [if_neg c] at h; rw [if_pos (by omega)]; omega

theorem mod_any (x y : Int) (w : World) (hy : 0 < y ∧ y ≤ 4611686018427387904) : Calls Try.prog 12 [.int .i64 x, .int .i64 y].toArray w (Val (.int .i64 (x % y)) w) := by
  refine calls_body (n := 15) Try.func12 rfl rfl rfl (St.init _ []) ?_
  refine cd_seq ?_
  refine cd_region ?_
  refine at_pure (pv_assign rfl) rfl ?_
  refine at_nil ?_
  refine ex_go ?_
  refine cd_seq ?_
  have q := emod_of x y hy.1
  have q1 := Int.emod_nonneg x (show y ≠ 0 by omega)
  have q2 := Int.emod_lt_of_pos x hy.1
  refine cd_region ?_
  refine at_pure (pv_move rfl) rfl ?_
  refine at_pure (pv_move rfl) rfl ?_
  refine at_pure (pv_rem rfl rfl (by first | decide | omega)) rfl ?_
  refine at_pure (pv_assign rfl) rfl ?_
  refine at_nil ?_
  refine ex_go ?_
  refine cd_seq ?_
  refine cd_seq ?_
  refine cd_region ?_
  refine at_pure (pv_move rfl) rfl ?_
  refine at_pure (pv_lss rfl rfl) rfl ?_
  refine at_nil ?_
  refine ex_go ?_
  refine cd_if rfl (fun hb1 => ?_) (fun hb1 => ?_)
  · have q3 : x.tmod y < 0 := by simpa using hb1
    rw [if_pos q3] at q
    refine cd_region ?_
    refine at_pure (pv_move rfl) rfl ?_
    refine at_pure (pv_move rfl) rfl ?_
    refine at_pure (by first | exact pv_add_n rfl rfl (by unfold In64; omega) | exact pv_add rfl rfl) rfl ?_
    refine at_pure (pv_assign rfl) rfl ?_
    refine at_nil ?_
    refine ex_go ?_
    refine cd_seq ?_
    refine cd_region ?_
    refine at_pure (pv_move rfl) rfl ?_
    refine at_pure (pv_assign rfl) rfl ?_
    refine at_nil ?_
    refine ex_go ?_
    refine cd_ret ?_
    exact end_ret1 rfl rfl (fun w hs => ⟨by rw [q], hs.keep⟩)
  · have q3 : ¬ x.tmod y < 0 := by simpa using hb1
    rw [if_neg q3] at q
    refine cd_skip ?_
    refine ex_go ?_
    refine cd_seq ?_
    refine cd_region ?_
    refine at_pure (pv_move rfl) rfl ?_
    refine at_pure (pv_assign rfl) rfl ?_
    refine at_nil ?_
    refine ex_go ?_
    refine cd_ret ?_
    exact end_ret1 rfl rfl (fun w hs => ⟨by rw [q], hs.keep⟩)

theorem left_any (g : Nat) (a : Option Addr) (len cap : Nat) (p : Int) (w : World) (hb : w.heap[g]? = some (.cells ([.slice a len cap, .int .i64 p] : List Value).toArray 75 (0, 0))) : Calls Try.prog 44 [Value.pointer (some ⟨g, 0, none⟩)].toArray w (Val (.bool (decide (p < len))) w) := by
  refine calls_body (n := 13) Try.func44 rfl rfl rfl (St.init _ []) ?_
  refine cd_seq ?_
  refine cd_region ?_
  refine at_pure (pv_assign rfl) rfl ?_
  refine at_nil ?_
  refine ex_go ?_
  refine cd_seq ?_
  refine cd_draw' 10 follows ?_
  refine dr_take 0 rfl (by kernel_rfl) (by first | exact List.Sublist.refl _ | (repeat first | exact List.Sublist.slnil | exact List.nil_sublist _ | apply List.Sublist.cons_cons | apply List.Sublist.cons)) (pv_move rfl) rfl ?_
  refine dr_take 1 rfl (by kernel_rfl) (by first | exact List.Sublist.refl _ | (repeat first | exact List.Sublist.slnil | exact List.nil_sublist _ | apply List.Sublist.cons_cons | apply List.Sublist.cons)) (pv_nilCheck rfl) rfl ?_
  refine dr_take 2 rfl (by kernel_rfl) (by first | exact List.Sublist.refl _ | (repeat first | exact List.Sublist.slnil | exact List.nil_sublist _ | apply List.Sublist.cons_cons | apply List.Sublist.cons)) (by first | exact pv_field0 fa_75_1 rfl rfl | exact pv_fieldAddr fa_75_1 rfl) rfl ?_
  refine dr_take 3 rfl (by kernel_rfl) (by first | exact List.Sublist.refl _ | (repeat first | exact List.Sublist.slnil | exact List.nil_sublist _ | apply List.Sublist.cons_cons | apply List.Sublist.cons)) (pv_load ld_3 rfl (old_cell (cell_of_block (off := 1) hb rfl) (by simp))) rfl ?_
  refine dr_take 4 rfl (by kernel_rfl) (by first | exact List.Sublist.refl _ | (repeat first | exact List.Sublist.slnil | exact List.nil_sublist _ | apply List.Sublist.cons_cons | apply List.Sublist.cons)) (pv_move rfl) rfl ?_
  refine dr_take 5 rfl (by kernel_rfl) (by first | exact List.Sublist.refl _ | (repeat first | exact List.Sublist.slnil | exact List.nil_sublist _ | apply List.Sublist.cons_cons | apply List.Sublist.cons)) (pv_nilCheck rfl) rfl ?_
  refine dr_take 6 rfl (by kernel_rfl) (by first | exact List.Sublist.refl _ | (repeat first | exact List.Sublist.slnil | exact List.nil_sublist _ | apply List.Sublist.cons_cons | apply List.Sublist.cons)) (by first | exact pv_field0 fa_75_0 rfl rfl | exact pv_fieldAddr fa_75_0 rfl) rfl ?_
  refine dr_take 7 rfl (by kernel_rfl) (by first | exact List.Sublist.refl _ | (repeat first | exact List.Sublist.slnil | exact List.nil_sublist _ | apply List.Sublist.cons_cons | apply List.Sublist.cons)) (pv_load ld_36 rfl (old_cell (cell_of_block (off := 0) hb rfl) (by simp))) rfl ?_
  refine dr_take 8 rfl (by kernel_rfl) (by first | exact List.Sublist.refl _ | (repeat first | exact List.Sublist.slnil | exact List.nil_sublist _ | apply List.Sublist.cons_cons | apply List.Sublist.cons)) (pv_len Try.underlying36 rfl) rfl ?_
  refine dr_take 9 rfl (by kernel_rfl) (by first | exact List.Sublist.refl _ | (repeat first | exact List.Sublist.slnil | exact List.nil_sublist _ | apply List.Sublist.cons_cons | apply List.Sublist.cons)) (pv_lss rfl rfl) rfl ?_
  refine dr_one 10 (by kernel_rfl) rfl ?_
  refine at_pure (pv_assign rfl) rfl ?_
  refine at_nil (dr_next (fun h => by cases h) ?_)
  refine dr_done (by kernel_rfl) ?_
  refine ex_go ?_
  refine cd_ret ?_
  exact end_ret1 rfl rfl (fun w hs => Val.mk hs)

theorem next_any (g : Nat) (a : Option Addr) (len cap : Nat) (p n : Int) (w : World) (hb : w.heap[g]? = some (.cells ([.slice a len cap, .int .i64 p] : List Value).toArray 75 (0, 0))) (hI : Ints [g] w a len) (hp : 0 ≤ p ∧ p ≤ len) (hl : len ≤ 17592186044416) (hn : 0 < n ∧ n ≤ 4611686018427387904) : Calls Try.prog 45 [Value.pointer (some ⟨g, 0, none⟩), .int .i64 n].toArray w (Turned g 75 (fun x => .int .i64 x) (fun x p' => 0 ≤ x ∧ x < n ∧ p' = (if p < (len : Int) then p + 1 else p)) (fun p => [.slice a len cap, .int .i64 p]) w) := by
  refine calls_body (n := 28) Try.func45 rfl rfl rfl (St.own hb) ?_
  refine cd_seq ?_
  refine cd_region ?_
  refine at_pure (pv_assign rfl) rfl ?_
  refine at_nil ?_
  refine ex_go ?_
  refine cd_seq ?_
  refine cd_seq ?_
  refine cd_region ?_
  refine at_pure (pv_move rfl) rfl ?_
  refine at_does (does_val cal44 rfl rfl rfl (fun w hs => left_any g a len cap p w (hs.box (i := 0) rfl))) rfl (fun _ => ?_)
  refine at_pure (pv_not rfl) rfl ?_
  refine at_nil ?_
  refine ex_go ?_
  refine cd_if rfl (fun hb1 => ?_) (fun hb1 => ?_)
  · skip
    refine cd_seq ?_
    refine cd_region ?_
    refine at_pure (pv_assign rfl) rfl ?_
    refine at_nil ?_
    refine ex_go ?_
    refine cd_ret ?_
    refine ex_then_ret ?_
    exact end_ret1 rfl rfl (fun w hs => by first | exact Turned.mk (z % n) (p + 1) ⟨Int.emod_nonneg _ (by omega), Int.emod_lt_of_pos _ hn.1, by rw [if_pos q1]⟩ rfl hs .z | exact Turned.mk 0 p ⟨by omega, by omega, by rw [if_neg (by simpa using hb1)]⟩ rfl hs .z)
  · skip
    refine cd_skip ?_
    refine ex_go ?_
    refine cd_seq ?_
    have q1 : p < (len : Int) := by simpa using hb1
    obtain ⟨A, rfl, hA0, hA1, hA⟩ := hI.resolve_left (by omega)
    obtain ⟨z, hz⟩ := hA (p + 1 - 1).toNat (by omega)
    refine cd_region ?_
    refine at_pure (pv_move rfl) rfl ?_
    refine at_pure (pv_nilCheck rfl) rfl ?_
    refine at_pure (pv_field0 fa_75_1 rfl (r := 1) rfl) rfl ?_
    refine at_pure (by exact pv_load ld_3 rfl (box_cell .z (.s .z))) rfl ?_
    refine at_pure (by first | exact pv_add_n rfl rfl (by unfold In64; omega) | exact pv_add rfl rfl) rfl ?_
    refine at_pure (pv_nilCheck rfl) rfl ?_
    refine at_pure (pv_field0 fa_75_1 rfl (r := 1) rfl) rfl ?_
    refine at_turns (by exact turns_store sz_3 rfl rfl (.one rfl) rfl rfl .z (.skip (.rep .done)) .z) ?_
    refine at_nil ?_
    refine ex_go ?_
    refine cd_seq ?_
    refine cd_draw' 13 follows ?_
    refine dr_take 0 rfl (by kernel_rfl) (by first | exact List.Sublist.refl _ | (repeat first | exact List.Sublist.slnil | exact List.nil_sublist _ | apply List.Sublist.cons_cons | apply List.Sublist.cons)) (pv_move rfl) rfl ?_
    refine dr_take 1 rfl (by kernel_rfl) (by first | exact List.Sublist.refl _ | (repeat first | exact List.Sublist.slnil | exact List.nil_sublist _ | apply List.Sublist.cons_cons | apply List.Sublist.cons)) (pv_nilCheck rfl) rfl ?_
    refine dr_take 2 rfl (by kernel_rfl) (by first | exact List.Sublist.refl _ | (repeat first | exact List.Sublist.slnil | exact List.nil_sublist _ | apply List.Sublist.cons_cons | apply List.Sublist.cons)) (pv_field0 fa_75_0 rfl (r := 0) rfl) rfl ?_
    refine dr_take 3 rfl (by kernel_rfl) (by first | exact List.Sublist.refl _ | (repeat first | exact List.Sublist.slnil | exact List.nil_sublist _ | apply List.Sublist.cons_cons | apply List.Sublist.cons)) (by exact pv_load ld_36 rfl (box_cell .z .z)) rfl ?_
    refine dr_take 4 rfl (by kernel_rfl) (by first | exact List.Sublist.refl _ | (repeat first | exact List.Sublist.slnil | exact List.nil_sublist _ | apply List.Sublist.cons_cons | apply List.Sublist.cons)) (pv_move rfl) rfl ?_
    refine dr_take 5 rfl (by kernel_rfl) (by first | exact List.Sublist.refl _ | (repeat first | exact List.Sublist.slnil | exact List.nil_sublist _ | apply List.Sublist.cons_cons | apply List.Sublist.cons)) (pv_nilCheck rfl) rfl ?_
    refine dr_take 6 rfl (by kernel_rfl) (by first | exact List.Sublist.refl _ | (repeat first | exact List.Sublist.slnil | exact List.nil_sublist _ | apply List.Sublist.cons_cons | apply List.Sublist.cons)) (pv_field0 fa_75_1 rfl (r := 1) rfl) rfl ?_
    refine dr_take 7 rfl (by kernel_rfl) (by first | exact List.Sublist.refl _ | (repeat first | exact List.Sublist.slnil | exact List.nil_sublist _ | apply List.Sublist.cons_cons | apply List.Sublist.cons)) (by exact pv_load ld_3 rfl (box_cell .z (.s .z))) rfl ?_
    refine dr_take 8 rfl (by kernel_rfl) (by first | exact List.Sublist.refl _ | (repeat first | exact List.Sublist.slnil | exact List.nil_sublist _ | apply List.Sublist.cons_cons | apply List.Sublist.cons)) (by first | exact pv_sub_n rfl rfl (by unfold In64; omega) | exact pv_sub rfl rfl) rfl ?_
    refine dr_take 9 rfl (by kernel_rfl) (by first | exact List.Sublist.refl _ | (repeat first | exact List.Sublist.slnil | exact List.nil_sublist _ | apply List.Sublist.cons_cons | apply List.Sublist.cons)) (pv_index Try.underlying36 cz_3 rfl rfl (by omega)) rfl ?_
    refine dr_take 10 rfl (by kernel_rfl) (by first | exact List.Sublist.refl _ | (repeat first | exact List.Sublist.slnil | exact List.nil_sublist _ | apply List.Sublist.cons_cons | apply List.Sublist.cons)) (pv_load ld_3 rfl (old_cell (by rw [Nat.mul_one]; exact hz) (by rw [add_block]; exact hA1))) rfl ?_
    refine dr_take 11 rfl (by kernel_rfl) (by first | exact List.Sublist.refl _ | (repeat first | exact List.Sublist.slnil | exact List.nil_sublist _ | apply List.Sublist.cons_cons | apply List.Sublist.cons)) (pv_move rfl) rfl ?_
    refine dr_one 12 (by kernel_rfl) rfl ?_
    refine at_does (does_val cal12 rfl rfl rfl (fun w hs => mod_any z n w hn)) rfl (fun _ => ?_)
    refine at_nil (dr_next (fun _ => (by first | exact List.Sublist.refl _ | (repeat first | exact List.Sublist.slnil | exact List.nil_sublist _ | apply List.Sublist.cons_cons | apply List.Sublist.cons))) ?_)
    refine dr_one 13 (by kernel_rfl) rfl ?_
    refine at_pure (pv_assign rfl) rfl ?_
    refine at_nil (dr_next (fun h => by cases h) ?_)
    refine dr_done (by kernel_rfl) ?_
    refine ex_go ?_
    refine cd_ret ?_
    exact end_ret1 rfl rfl (fun w hs => by first | exact Turned.mk (z % n) (p + 1) ⟨Int.emod_nonneg _ (by omega), Int.emod_lt_of_pos _ hn.1, by rw [if_pos q1]⟩ rfl hs .z | exact Turned.mk 0 p ⟨by omega, by omega, by rw [if_neg (by simpa using hb1)]⟩ rfl hs .z)

theorem new_any (a : Option Addr) (len cap : Nat) (w : World) : Calls Try.prog 43 [.slice a len cap].toArray w (Gives (fun g : Nat => Value.pointer (some ⟨g, 0, none⟩)) (fun g => [Box g [.slice a len cap, .int .i64 0] 75]) w) := by
  refine calls_body (n := 6) Try.func43 rfl rfl rfl (St.init _ []) ?_
  refine cd_seq ?_
  refine cd_region ?_
  refine at_pure (pv_assign rfl) rfl ?_
  refine at_nil ?_
  refine ex_go ?_
  refine cd_seq ?_
  refine cd_region ?_
  refine at_pure (pv_move rfl) rfl ?_
  refine at_pure (pv_build rfl (bu_75_0 _ _ _)) rfl ?_
  refine at_does (does_box rfl .agg (fun _ => .nil)) rfl (fun g1 => ?_)
  refine at_pure (pv_assign rfl) rfl ?_
  refine at_nil ?_
  refine ex_go ?_
  refine cd_ret ?_
  exact end_ret1 rfl rfl (fun w hs => Gives.mk _ rfl rfl hs)

theorem few_any (a : Option Addr) (len cap : Nat) (w : World) : Calls Try.prog 42 [.slice a len cap].toArray w (Val (.bool (decide ((len : Int) ≤ 200))) w) := by
  refine calls_body (n := 6) Try.func42 rfl rfl rfl (St.init _ []) ?_
  refine cd_seq ?_
  refine cd_region ?_
  refine at_pure (pv_assign rfl) rfl ?_
  refine at_nil ?_
  refine ex_go ?_
  refine cd_seq ?_
  refine cd_region ?_
  refine at_pure (pv_move rfl) rfl ?_
  refine at_pure (pv_len Try.underlying36 rfl) rfl ?_
  refine at_pure (pv_leq rfl rfl) rfl ?_
  refine at_pure (pv_assign rfl) rfl ?_
  refine at_nil ?_
  refine ex_go ?_
  refine cd_ret ?_
  exact end_ret1 rfl rfl (fun w hs => Val.mk hs)

def validC (a b c d : Int) : Bool := decide (0 ≤ a) && decide (a ≤ 4096) && decide (0 ≤ c) && decide (c ≤ b) && decide (b ≤ 1099511627776) && decide (0 ≤ d) && decide (d ≤ 1099511627776)
theorem validC_iff (a b c d : Int) : validC a b c d = true ↔ 0 ≤ a ∧ a ≤ 4096 ∧ 0 ≤ c ∧ c ≤ b ∧ b ≤ 1099511627776 ∧ 0 ≤ d ∧ d ≤ 1099511627776 := by simp [validC]; omega
def sel (b : Bool) (x y : Int) : Int := bif b then x else y
def selb (b : Bool) (x y : Bool) : Bool := bif b then x else y
def stateI (a b c d : Int) (e : Bool) : Int := sel (validC a b c d) (sel e 4 (sel (decide (a < d)) 3 (sel (decide (0 < d)) 2 1))) 0
def wroteOk (a b c d : Int) (e : Bool) (n : Int) : Bool := validC a b c d && (!e && (decide (0 ≤ n) && decide (n ≤ 1099511627776 - b)))
def wroteErr (a b c d : Int) (e : Bool) (n : Int) : Int := sel (validC a b c d) (sel e 9 (sel (decide (0 ≤ n)) (sel (decide (n ≤ 1099511627776 - b)) 0 3) 2)) 1
def wroteV (a b c d : Int) (e : Bool) (n : Int) : Value := .tuple #[.agg #[.int .i64 (sel (wroteOk a b c d e n) a 0), .int .i64 (sel (wroteOk a b c d e n) (b + n) 0), .int .i64 (sel (wroteOk a b c d e n) c 0), .int .i64 (sel (wroteOk a b c d e n) d 0), .bool (selb (wroteOk a b c d e n) e false)], .int .i64 (wroteErr a b c d e n)]
def took (b c n : Int) : Int := if b - c < n then b - c else n
def late (b c d n : Int) : Int := if n - took b c n = 0 then 0 else if 1099511627776 < d + 1 then 1099511627776 else d + 1
def tickOk (a b c d n : Int) : Bool := validC a b c d && decide (0 ≤ n)
def tickV (a b c d : Int) (e : Bool) (n : Int) : Value := .tuple #[.agg #[.int .i64 (sel (tickOk a b c d n) a 0), .int .i64 (sel (tickOk a b c d n) b 0), .int .i64 (sel (tickOk a b c d n) (c + took b c n) 0), .int .i64 (sel (tickOk a b c d n) (late b c d n) 0), .bool (selb (tickOk a b c d n) e false)], .int .i64 (sel (tickOk a b c d n) (n - took b c n) 0), .int .i64 (sel (validC a b c d) (sel (decide (0 ≤ n)) 0 2) 1)]
def newOk (g : Int) : Bool := decide (0 ≤ g) && decide (g ≤ 4096)
def newV (g : Int) : Value := .tuple #[.agg #[.int .i64 (sel (newOk g) g 0), .int .i64 0, .int .i64 0, .int .i64 0, .bool false], .int .i64 (sel (newOk g) 0 2)]
def wholeI (x y : Int) : Int := if x < 0 ∨ y < 1 then 0 else x / y
theorem tickV_ok (a b c d : Int) (e : Bool) (n : Int) (h1 : validC a b c d = true) (h2 : 0 ≤ n) : tickV a b c d e n = .tuple #[.agg #[.int .i64 a, .int .i64 b, .int .i64 (c + took b c n), .int .i64 (late b c d n), .bool e], .int .i64 (n - took b c n), .int .i64 0] := by unfold tickV tickOk; rw [h1, decide_eq_true h2]; rfl
theorem tickV_no (a b c d : Int) (e : Bool) (n : Int) (h1 : validC a b c d = false) : tickV a b c d e n = .tuple #[.agg #[.int .i64 0, .int .i64 0, .int .i64 0, .int .i64 0, .bool false], .int .i64 0, .int .i64 1] := by unfold tickV tickOk; rw [h1]; rfl
theorem tickV_neg (a b c d : Int) (e : Bool) (n : Int) (h1 : validC a b c d = true) (h2 : n < 0) : tickV a b c d e n = .tuple #[.agg #[.int .i64 0, .int .i64 0, .int .i64 0, .int .i64 0, .bool false], .int .i64 0, .int .i64 2] := by unfold tickV tickOk; rw [h1, decide_eq_false (show ¬ 0 ≤ n by omega)]; rfl
theorem wroteV_ok (a b c d : Int) (n : Int) (h1 : validC a b c d = true) (h2 : 0 ≤ n) (h3 : n ≤ 1099511627776 - b) : wroteV a b c d false n = .tuple #[.agg #[.int .i64 a, .int .i64 (b + n), .int .i64 c, .int .i64 d, .bool false], .int .i64 0] := by unfold wroteV wroteOk wroteErr; rw [h1, decide_eq_true h2, decide_eq_true h3]; rfl
theorem wroteV_1 (a b c d : Int) (e : Bool) (n : Int) (h1 : validC a b c d = false) : wroteV a b c d e n = .tuple #[.agg #[.int .i64 0, .int .i64 0, .int .i64 0, .int .i64 0, .bool false], .int .i64 1] := by unfold wroteV wroteOk wroteErr; rw [h1]; rfl
theorem wroteV_2 (a b c d : Int) (n : Int) (h1 : validC a b c d = true) : wroteV a b c d true n = .tuple #[.agg #[.int .i64 0, .int .i64 0, .int .i64 0, .int .i64 0, .bool false], .int .i64 9] := by unfold wroteV wroteOk wroteErr; rw [h1]; rfl
theorem wroteV_3 (a b c d : Int) (n : Int) (h1 : validC a b c d = true) (h2 : n < 0) : wroteV a b c d false n = .tuple #[.agg #[.int .i64 0, .int .i64 0, .int .i64 0, .int .i64 0, .bool false], .int .i64 2] := by unfold wroteV wroteOk wroteErr; rw [h1, decide_eq_false (show ¬ 0 ≤ n by omega)]; rfl
theorem wroteV_4 (a b c d : Int) (n : Int) (h1 : validC a b c d = true) (h2 : 0 ≤ n) (h3 : 1099511627776 - b < n) : wroteV a b c d false n = .tuple #[.agg #[.int .i64 0, .int .i64 0, .int .i64 0, .int .i64 0, .bool false], .int .i64 3] := by unfold wroteV wroteOk wroteErr; rw [h1, decide_eq_true h2, decide_eq_false (show ¬ n ≤ 1099511627776 - b by omega)]; rfl

theorem valid_any (a b c d : Int) (e : Bool) (w : World) : Calls Try.prog 30 [.agg #[.int .i64 a, .int .i64 b, .int .i64 c, .int .i64 d, .bool e]].toArray w (Val (.bool (validC a b c d)) w) := by
  refine calls_body (n := 38) Try.func30 rfl rfl rfl (St.init _ []) ?_
  refine cd_seq ?_
  refine cd_region ?_
  refine at_does (does_box rfl .agg (fun _ => .nil)) rfl (fun g1 => ?_)
  refine at_pure (pv_assign rfl) rfl ?_
  refine at_nil ?_
  refine ex_go ?_
  refine cd_seq ?_
  refine cd_region ?_
  refine at_pure (pv_field0 fa_54_0 rfl (r := 0) rfl) rfl ?_
  refine at_pure (by exact pv_load ld_3 rfl (box_cell .z .z)) rfl ?_
  refine at_pure (pv_geq rfl rfl) rfl ?_
  refine at_pure (pv_move rfl) rfl ?_
  refine at_split 6 rfl (fun hb1 => ?_) (fun hb1 => ?_)
  · skip
    refine at_pure_g rfl rfl hb1 (pv_field0 fa_54_0 rfl (r := 0) rfl) rfl ?_
    refine at_pure_g rfl rfl hb1 (by exact pv_load ld_3 rfl (box_cell .z .z)) rfl ?_
    refine at_pure_g rfl rfl hb1 (pv_leq rfl rfl) rfl ?_
    refine at_pure (pv_pick_t rfl hb1 rfl) rfl ?_
    refine at_pure (pv_move rfl) rfl ?_
    refine at_split 11 rfl (fun hb2 => ?_) (fun hb2 => ?_)
    · skip
      refine at_pure_g rfl rfl hb2 (pv_field0 fa_54_2 rfl (r := 2) rfl) rfl ?_
      refine at_pure_g rfl rfl hb2 (by exact pv_load ld_2 rfl (box_cell .z (.s (.s .z)))) rfl ?_
      refine at_pure_g rfl rfl hb2 (pv_geq rfl rfl) rfl ?_
      refine at_pure (pv_pick_t rfl hb2 rfl) rfl ?_
      refine at_pure (pv_move rfl) rfl ?_
      refine at_split 16 rfl (fun hb3 => ?_) (fun hb3 => ?_)
      · skip
        refine at_pure_g rfl rfl hb3 (pv_field0 fa_54_2 rfl (r := 2) rfl) rfl ?_
        refine at_pure_g rfl rfl hb3 (by exact pv_load ld_2 rfl (box_cell .z (.s (.s .z)))) rfl ?_
        refine at_pure_g rfl rfl hb3 (pv_field0 fa_54_1 rfl (r := 1) rfl) rfl ?_
        refine at_pure_g rfl rfl hb3 (by exact pv_load ld_2 rfl (box_cell .z (.s .z))) rfl ?_
        refine at_pure_g rfl rfl hb3 (pv_leq rfl rfl) rfl ?_
        refine at_pure (pv_pick_t rfl hb3 rfl) rfl ?_
        refine at_pure (pv_move rfl) rfl ?_
        refine at_split 23 rfl (fun hb4 => ?_) (fun hb4 => ?_)
        · skip
          refine at_pure_g rfl rfl hb4 (pv_field0 fa_54_1 rfl (r := 1) rfl) rfl ?_
          refine at_pure_g rfl rfl hb4 (by exact pv_load ld_2 rfl (box_cell .z (.s .z))) rfl ?_
          refine at_pure_g rfl rfl hb4 (pv_leq rfl rfl) rfl ?_
          refine at_pure (pv_pick_t rfl hb4 rfl) rfl ?_
          refine at_pure (pv_move rfl) rfl ?_
          refine at_split 28 rfl (fun hb5 => ?_) (fun hb5 => ?_)
          · skip
            refine at_pure_g rfl rfl hb5 (pv_field0 fa_54_3 rfl (r := 3) rfl) rfl ?_
            refine at_pure_g rfl rfl hb5 (by exact pv_load ld_3 rfl (box_cell .z (.s (.s (.s .z))))) rfl ?_
            refine at_pure_g rfl rfl hb5 (pv_geq rfl rfl) rfl ?_
            refine at_pure (pv_pick_t rfl hb5 rfl) rfl ?_
            refine at_pure (pv_move rfl) rfl ?_
            refine at_split 33 rfl (fun hb6 => ?_) (fun hb6 => ?_)
            · skip
              refine at_pure_g rfl rfl hb6 (pv_field0 fa_54_3 rfl (r := 3) rfl) rfl ?_
              refine at_pure_g rfl rfl hb6 (by exact pv_load ld_3 rfl (box_cell .z (.s (.s (.s .z))))) rfl ?_
              refine at_pure_g rfl rfl hb6 (pv_leq rfl rfl) rfl ?_
              refine at_pure (pv_pick_t rfl hb6 rfl) rfl ?_
              refine at_pure (pv_assign rfl) rfl ?_
              refine at_nil ?_
              refine ex_go ?_
              refine cd_ret ?_
              exact end_ret1 rfl rfl (fun w hs => ⟨by clear hs; refine congrArg (fun b => Ending.returned (.bool b)) ?_; first | (simp_all [validC]; done) | (simp_all [validC]; intros; omega), hs.keep⟩)
            · skip
              refine at_skip rfl rfl hb6 rfl ?_
              refine at_skip rfl rfl hb6 rfl ?_
              refine at_skip rfl rfl hb6 rfl ?_
              refine at_pure (pv_pick_f rfl hb6 rfl) rfl ?_
              refine at_pure (pv_assign rfl) rfl ?_
              refine at_nil ?_
              refine ex_go ?_
              refine cd_ret ?_
              exact end_ret1 rfl rfl (fun w hs => ⟨by clear hs; refine congrArg (fun b => Ending.returned (.bool b)) ?_; first | (simp_all [validC]; done) | (simp_all [validC]; intros; omega), hs.keep⟩)
          · skip
            refine at_skip rfl rfl hb5 rfl ?_
            refine at_skip rfl rfl hb5 rfl ?_
            refine at_skip rfl rfl hb5 rfl ?_
            refine at_pure (pv_pick_f rfl hb5 rfl) rfl ?_
            refine at_pure (pv_move rfl) rfl ?_
            refine at_skip rfl rfl rfl rfl ?_
            refine at_skip rfl rfl rfl rfl ?_
            refine at_skip rfl rfl rfl rfl ?_
            refine at_pure (pv_pick_f rfl rfl rfl) rfl ?_
            refine at_pure (pv_assign rfl) rfl ?_
            refine at_nil ?_
            refine ex_go ?_
            refine cd_ret ?_
            exact end_ret1 rfl rfl (fun w hs => ⟨by clear hs; refine congrArg (fun b => Ending.returned (.bool b)) ?_; first | (simp_all [validC]; done) | (simp_all [validC]; intros; omega), hs.keep⟩)
        · skip
          refine at_skip rfl rfl hb4 rfl ?_
          refine at_skip rfl rfl hb4 rfl ?_
          refine at_skip rfl rfl hb4 rfl ?_
          refine at_pure (pv_pick_f rfl hb4 rfl) rfl ?_
          refine at_pure (pv_move rfl) rfl ?_
          refine at_skip rfl rfl rfl rfl ?_
          refine at_skip rfl rfl rfl rfl ?_
          refine at_skip rfl rfl rfl rfl ?_
          refine at_pure (pv_pick_f rfl rfl rfl) rfl ?_
          refine at_pure (pv_move rfl) rfl ?_
          refine at_skip rfl rfl rfl rfl ?_
          refine at_skip rfl rfl rfl rfl ?_
          refine at_skip rfl rfl rfl rfl ?_
          refine at_pure (pv_pick_f rfl rfl rfl) rfl ?_
          refine at_pure (pv_assign rfl) rfl ?_
          refine at_nil ?_
          refine ex_go ?_
          refine cd_ret ?_
          exact end_ret1 rfl rfl (fun w hs => ⟨by clear hs; refine congrArg (fun b => Ending.returned (.bool b)) ?_; first | (simp_all [validC]; done) | (simp_all [validC]; intros; omega), hs.keep⟩)
      · skip
        refine at_skip rfl rfl hb3 rfl ?_
        refine at_skip rfl rfl hb3 rfl ?_
        refine at_skip rfl rfl hb3 rfl ?_
        refine at_skip rfl rfl hb3 rfl ?_
        refine at_skip rfl rfl hb3 rfl ?_
        refine at_pure (pv_pick_f rfl hb3 rfl) rfl ?_
        refine at_pure (pv_move rfl) rfl ?_
        refine at_skip rfl rfl rfl rfl ?_
        refine at_skip rfl rfl rfl rfl ?_
        refine at_skip rfl rfl rfl rfl ?_
        refine at_pure (pv_pick_f rfl rfl rfl) rfl ?_
        refine at_pure (pv_move rfl) rfl ?_
        refine at_skip rfl rfl rfl rfl ?_
        refine at_skip rfl rfl rfl rfl ?_
        refine at_skip rfl rfl rfl rfl ?_
        refine at_pure (pv_pick_f rfl rfl rfl) rfl ?_
        refine at_pure (pv_move rfl) rfl ?_
        refine at_skip rfl rfl rfl rfl ?_
        refine at_skip rfl rfl rfl rfl ?_
        refine at_skip rfl rfl rfl rfl ?_
        refine at_pure (pv_pick_f rfl rfl rfl) rfl ?_
        refine at_pure (pv_assign rfl) rfl ?_
        refine at_nil ?_
        refine ex_go ?_
        refine cd_ret ?_
        exact end_ret1 rfl rfl (fun w hs => ⟨by clear hs; refine congrArg (fun b => Ending.returned (.bool b)) ?_; first | (simp_all [validC]; done) | (simp_all [validC]; intros; omega), hs.keep⟩)
    · skip
      refine at_skip rfl rfl hb2 rfl ?_
      refine at_skip rfl rfl hb2 rfl ?_
      refine at_skip rfl rfl hb2 rfl ?_
      refine at_pure (pv_pick_f rfl hb2 rfl) rfl ?_
      refine at_pure (pv_move rfl) rfl ?_
      refine at_skip rfl rfl rfl rfl ?_
      refine at_skip rfl rfl rfl rfl ?_
      refine at_skip rfl rfl rfl rfl ?_
      refine at_skip rfl rfl rfl rfl ?_
      refine at_skip rfl rfl rfl rfl ?_
      refine at_pure (pv_pick_f rfl rfl rfl) rfl ?_
      refine at_pure (pv_move rfl) rfl ?_
      refine at_skip rfl rfl rfl rfl ?_
      refine at_skip rfl rfl rfl rfl ?_
      refine at_skip rfl rfl rfl rfl ?_
      refine at_pure (pv_pick_f rfl rfl rfl) rfl ?_
      refine at_pure (pv_move rfl) rfl ?_
      refine at_skip rfl rfl rfl rfl ?_
      refine at_skip rfl rfl rfl rfl ?_
      refine at_skip rfl rfl rfl rfl ?_
      refine at_pure (pv_pick_f rfl rfl rfl) rfl ?_
      refine at_pure (pv_move rfl) rfl ?_
      refine at_skip rfl rfl rfl rfl ?_
      refine at_skip rfl rfl rfl rfl ?_
      refine at_skip rfl rfl rfl rfl ?_
      refine at_pure (pv_pick_f rfl rfl rfl) rfl ?_
      refine at_pure (pv_assign rfl) rfl ?_
      refine at_nil ?_
      refine ex_go ?_
      refine cd_ret ?_
      exact end_ret1 rfl rfl (fun w hs => ⟨by clear hs; refine congrArg (fun b => Ending.returned (.bool b)) ?_; first | (simp_all [validC]; done) | (simp_all [validC]; intros; omega), hs.keep⟩)
  · skip
    refine at_skip rfl rfl hb1 rfl ?_
    refine at_skip rfl rfl hb1 rfl ?_
    refine at_skip rfl rfl hb1 rfl ?_
    refine at_pure (pv_pick_f rfl hb1 rfl) rfl ?_
    refine at_pure (pv_move rfl) rfl ?_
    refine at_skip rfl rfl rfl rfl ?_
    refine at_skip rfl rfl rfl rfl ?_
    refine at_skip rfl rfl rfl rfl ?_
    refine at_pure (pv_pick_f rfl rfl rfl) rfl ?_
    refine at_pure (pv_move rfl) rfl ?_
    refine at_skip rfl rfl rfl rfl ?_
    refine at_skip rfl rfl rfl rfl ?_
    refine at_skip rfl rfl rfl rfl ?_
    refine at_skip rfl rfl rfl rfl ?_
    refine at_skip rfl rfl rfl rfl ?_
    refine at_pure (pv_pick_f rfl rfl rfl) rfl ?_
    refine at_pure (pv_move rfl) rfl ?_
    refine at_skip rfl rfl rfl rfl ?_
    refine at_skip rfl rfl rfl rfl ?_
    refine at_skip rfl rfl rfl rfl ?_
    refine at_pure (pv_pick_f rfl rfl rfl) rfl ?_
    refine at_pure (pv_move rfl) rfl ?_
    refine at_skip rfl rfl rfl rfl ?_
    refine at_skip rfl rfl rfl rfl ?_
    refine at_skip rfl rfl rfl rfl ?_
    refine at_pure (pv_pick_f rfl rfl rfl) rfl ?_
    refine at_pure (pv_move rfl) rfl ?_
    refine at_skip rfl rfl rfl rfl ?_
    refine at_skip rfl rfl rfl rfl ?_
    refine at_skip rfl rfl rfl rfl ?_
    refine at_pure (pv_pick_f rfl rfl rfl) rfl ?_
    refine at_pure (pv_assign rfl) rfl ?_
    refine at_nil ?_
    refine ex_go ?_
    refine cd_ret ?_
    exact end_ret1 rfl rfl (fun w hs => ⟨by clear hs; refine congrArg (fun b => Ending.returned (.bool b)) ?_; first | (simp_all [validC]; done) | (simp_all [validC]; intros; omega), hs.keep⟩)

theorem valid_ref (a b c d : Int) (e : Bool) (w : World) : Calls Try.prog 31 [.agg #[.int .i64 a, .int .i64 b, .int .i64 c, .int .i64 d, .bool e]].toArray w (Val (.bool (validC a b c d)) w) := by
  refine calls_body (n := 38) Try.func31 rfl rfl rfl (St.init _ []) ?_
  refine cd_seq ?_
  refine cd_region ?_
  refine at_does (does_box rfl .agg (fun _ => .nil)) rfl (fun g1 => ?_)
  refine at_pure (pv_assign rfl) rfl ?_
  refine at_nil ?_
  refine ex_go ?_
  refine cd_seq ?_
  refine cd_region ?_
  refine at_pure (pv_field0 fa_54_0 rfl (r := 0) rfl) rfl ?_
  refine at_pure (by exact pv_load ld_3 rfl (box_cell .z .z)) rfl ?_
  refine at_pure (pv_geq rfl rfl) rfl ?_
  refine at_pure (pv_move rfl) rfl ?_
  refine at_split 6 rfl (fun hb1 => ?_) (fun hb1 => ?_)
  · skip
    refine at_pure_g rfl rfl hb1 (pv_field0 fa_54_0 rfl (r := 0) rfl) rfl ?_
    refine at_pure_g rfl rfl hb1 (by exact pv_load ld_3 rfl (box_cell .z .z)) rfl ?_
    refine at_pure_g rfl rfl hb1 (pv_leq rfl rfl) rfl ?_
    refine at_pure (pv_pick_t rfl hb1 rfl) rfl ?_
    refine at_pure (pv_move rfl) rfl ?_
    refine at_split 11 rfl (fun hb2 => ?_) (fun hb2 => ?_)
    · skip
      refine at_pure_g rfl rfl hb2 (pv_field0 fa_54_2 rfl (r := 2) rfl) rfl ?_
      refine at_pure_g rfl rfl hb2 (by exact pv_load ld_2 rfl (box_cell .z (.s (.s .z)))) rfl ?_
      refine at_pure_g rfl rfl hb2 (pv_geq rfl rfl) rfl ?_
      refine at_pure (pv_pick_t rfl hb2 rfl) rfl ?_
      refine at_pure (pv_move rfl) rfl ?_
      refine at_split 16 rfl (fun hb3 => ?_) (fun hb3 => ?_)
      · skip
        refine at_pure_g rfl rfl hb3 (pv_field0 fa_54_2 rfl (r := 2) rfl) rfl ?_
        refine at_pure_g rfl rfl hb3 (by exact pv_load ld_2 rfl (box_cell .z (.s (.s .z)))) rfl ?_
        refine at_pure_g rfl rfl hb3 (pv_field0 fa_54_1 rfl (r := 1) rfl) rfl ?_
        refine at_pure_g rfl rfl hb3 (by exact pv_load ld_2 rfl (box_cell .z (.s .z))) rfl ?_
        refine at_pure_g rfl rfl hb3 (pv_leq rfl rfl) rfl ?_
        refine at_pure (pv_pick_t rfl hb3 rfl) rfl ?_
        refine at_pure (pv_move rfl) rfl ?_
        refine at_split 23 rfl (fun hb4 => ?_) (fun hb4 => ?_)
        · skip
          refine at_pure_g rfl rfl hb4 (pv_field0 fa_54_1 rfl (r := 1) rfl) rfl ?_
          refine at_pure_g rfl rfl hb4 (by exact pv_load ld_2 rfl (box_cell .z (.s .z))) rfl ?_
          refine at_pure_g rfl rfl hb4 (pv_leq rfl rfl) rfl ?_
          refine at_pure (pv_pick_t rfl hb4 rfl) rfl ?_
          refine at_pure (pv_move rfl) rfl ?_
          refine at_split 28 rfl (fun hb5 => ?_) (fun hb5 => ?_)
          · skip
            refine at_pure_g rfl rfl hb5 (pv_field0 fa_54_3 rfl (r := 3) rfl) rfl ?_
            refine at_pure_g rfl rfl hb5 (by exact pv_load ld_3 rfl (box_cell .z (.s (.s (.s .z))))) rfl ?_
            refine at_pure_g rfl rfl hb5 (pv_geq rfl rfl) rfl ?_
            refine at_pure (pv_pick_t rfl hb5 rfl) rfl ?_
            refine at_pure (pv_move rfl) rfl ?_
            refine at_split 33 rfl (fun hb6 => ?_) (fun hb6 => ?_)
            · skip
              refine at_pure_g rfl rfl hb6 (pv_field0 fa_54_3 rfl (r := 3) rfl) rfl ?_
              refine at_pure_g rfl rfl hb6 (by exact pv_load ld_3 rfl (box_cell .z (.s (.s (.s .z))))) rfl ?_
              refine at_pure_g rfl rfl hb6 (pv_leq rfl rfl) rfl ?_
              refine at_pure (pv_pick_t rfl hb6 rfl) rfl ?_
              refine at_pure (pv_assign rfl) rfl ?_
              refine at_nil ?_
              refine ex_go ?_
              refine cd_ret ?_
              exact end_ret1 rfl rfl (fun w hs => ⟨by clear hs; refine congrArg (fun b => Ending.returned (.bool b)) ?_; first | (simp_all [validC]; done) | (simp_all [validC]; intros; omega), hs.keep⟩)
            · skip
              refine at_skip rfl rfl hb6 rfl ?_
              refine at_skip rfl rfl hb6 rfl ?_
              refine at_skip rfl rfl hb6 rfl ?_
              refine at_pure (pv_pick_f rfl hb6 rfl) rfl ?_
              refine at_pure (pv_assign rfl) rfl ?_
              refine at_nil ?_
              refine ex_go ?_
              refine cd_ret ?_
              exact end_ret1 rfl rfl (fun w hs => ⟨by clear hs; refine congrArg (fun b => Ending.returned (.bool b)) ?_; first | (simp_all [validC]; done) | (simp_all [validC]; intros; omega), hs.keep⟩)
          · skip
            refine at_skip rfl rfl hb5 rfl ?_
            refine at_skip rfl rfl hb5 rfl ?_
            refine at_skip rfl rfl hb5 rfl ?_
            refine at_pure (pv_pick_f rfl hb5 rfl) rfl ?_
            refine at_pure (pv_move rfl) rfl ?_
            refine at_skip rfl rfl rfl rfl ?_
            refine at_skip rfl rfl rfl rfl ?_
            refine at_skip rfl rfl rfl rfl ?_
            refine at_pure (pv_pick_f rfl rfl rfl) rfl ?_
            refine at_pure (pv_assign rfl) rfl ?_
            refine at_nil ?_
            refine ex_go ?_
            refine cd_ret ?_
            exact end_ret1 rfl rfl (fun w hs => ⟨by clear hs; refine congrArg (fun b => Ending.returned (.bool b)) ?_; first | (simp_all [validC]; done) | (simp_all [validC]; intros; omega), hs.keep⟩)
        · skip
          refine at_skip rfl rfl hb4 rfl ?_
          refine at_skip rfl rfl hb4 rfl ?_
          refine at_skip rfl rfl hb4 rfl ?_
          refine at_pure (pv_pick_f rfl hb4 rfl) rfl ?_
          refine at_pure (pv_move rfl) rfl ?_
          refine at_skip rfl rfl rfl rfl ?_
          refine at_skip rfl rfl rfl rfl ?_
          refine at_skip rfl rfl rfl rfl ?_
          refine at_pure (pv_pick_f rfl rfl rfl) rfl ?_
          refine at_pure (pv_move rfl) rfl ?_
          refine at_skip rfl rfl rfl rfl ?_
          refine at_skip rfl rfl rfl rfl ?_
          refine at_skip rfl rfl rfl rfl ?_
          refine at_pure (pv_pick_f rfl rfl rfl) rfl ?_
          refine at_pure (pv_assign rfl) rfl ?_
          refine at_nil ?_
          refine ex_go ?_
          refine cd_ret ?_
          exact end_ret1 rfl rfl (fun w hs => ⟨by clear hs; refine congrArg (fun b => Ending.returned (.bool b)) ?_; first | (simp_all [validC]; done) | (simp_all [validC]; intros; omega), hs.keep⟩)
      · skip
        refine at_skip rfl rfl hb3 rfl ?_
        refine at_skip rfl rfl hb3 rfl ?_
        refine at_skip rfl rfl hb3 rfl ?_
        refine at_skip rfl rfl hb3 rfl ?_
        refine at_skip rfl rfl hb3 rfl ?_
        refine at_pure (pv_pick_f rfl hb3 rfl) rfl ?_
        refine at_pure (pv_move rfl) rfl ?_
        refine at_skip rfl rfl rfl rfl ?_
        refine at_skip rfl rfl rfl rfl ?_
        refine at_skip rfl rfl rfl rfl ?_
        refine at_pure (pv_pick_f rfl rfl rfl) rfl ?_
        refine at_pure (pv_move rfl) rfl ?_
        refine at_skip rfl rfl rfl rfl ?_
        refine at_skip rfl rfl rfl rfl ?_
        refine at_skip rfl rfl rfl rfl ?_
        refine at_pure (pv_pick_f rfl rfl rfl) rfl ?_
        refine at_pure (pv_move rfl) rfl ?_
        refine at_skip rfl rfl rfl rfl ?_
        refine at_skip rfl rfl rfl rfl ?_
        refine at_skip rfl rfl rfl rfl ?_
        refine at_pure (pv_pick_f rfl rfl rfl) rfl ?_
        refine at_pure (pv_assign rfl) rfl ?_
        refine at_nil ?_
        refine ex_go ?_
        refine cd_ret ?_
        exact end_ret1 rfl rfl (fun w hs => ⟨by clear hs; refine congrArg (fun b => Ending.returned (.bool b)) ?_; first | (simp_all [validC]; done) | (simp_all [validC]; intros; omega), hs.keep⟩)
    · skip
      refine at_skip rfl rfl hb2 rfl ?_
      refine at_skip rfl rfl hb2 rfl ?_
      refine at_skip rfl rfl hb2 rfl ?_
      refine at_pure (pv_pick_f rfl hb2 rfl) rfl ?_
      refine at_pure (pv_move rfl) rfl ?_
      refine at_skip rfl rfl rfl rfl ?_
      refine at_skip rfl rfl rfl rfl ?_
      refine at_skip rfl rfl rfl rfl ?_
      refine at_skip rfl rfl rfl rfl ?_
      refine at_skip rfl rfl rfl rfl ?_
      refine at_pure (pv_pick_f rfl rfl rfl) rfl ?_
      refine at_pure (pv_move rfl) rfl ?_
      refine at_skip rfl rfl rfl rfl ?_
      refine at_skip rfl rfl rfl rfl ?_
      refine at_skip rfl rfl rfl rfl ?_
      refine at_pure (pv_pick_f rfl rfl rfl) rfl ?_
      refine at_pure (pv_move rfl) rfl ?_
      refine at_skip rfl rfl rfl rfl ?_
      refine at_skip rfl rfl rfl rfl ?_
      refine at_skip rfl rfl rfl rfl ?_
      refine at_pure (pv_pick_f rfl rfl rfl) rfl ?_
      refine at_pure (pv_move rfl) rfl ?_
      refine at_skip rfl rfl rfl rfl ?_
      refine at_skip rfl rfl rfl rfl ?_
      refine at_skip rfl rfl rfl rfl ?_
      refine at_pure (pv_pick_f rfl rfl rfl) rfl ?_
      refine at_pure (pv_assign rfl) rfl ?_
      refine at_nil ?_
      refine ex_go ?_
      refine cd_ret ?_
      exact end_ret1 rfl rfl (fun w hs => ⟨by clear hs; refine congrArg (fun b => Ending.returned (.bool b)) ?_; first | (simp_all [validC]; done) | (simp_all [validC]; intros; omega), hs.keep⟩)
  · skip
    refine at_skip rfl rfl hb1 rfl ?_
    refine at_skip rfl rfl hb1 rfl ?_
    refine at_skip rfl rfl hb1 rfl ?_
    refine at_pure (pv_pick_f rfl hb1 rfl) rfl ?_
    refine at_pure (pv_move rfl) rfl ?_
    refine at_skip rfl rfl rfl rfl ?_
    refine at_skip rfl rfl rfl rfl ?_
    refine at_skip rfl rfl rfl rfl ?_
    refine at_pure (pv_pick_f rfl rfl rfl) rfl ?_
    refine at_pure (pv_move rfl) rfl ?_
    refine at_skip rfl rfl rfl rfl ?_
    refine at_skip rfl rfl rfl rfl ?_
    refine at_skip rfl rfl rfl rfl ?_
    refine at_skip rfl rfl rfl rfl ?_
    refine at_skip rfl rfl rfl rfl ?_
    refine at_pure (pv_pick_f rfl rfl rfl) rfl ?_
    refine at_pure (pv_move rfl) rfl ?_
    refine at_skip rfl rfl rfl rfl ?_
    refine at_skip rfl rfl rfl rfl ?_
    refine at_skip rfl rfl rfl rfl ?_
    refine at_pure (pv_pick_f rfl rfl rfl) rfl ?_
    refine at_pure (pv_move rfl) rfl ?_
    refine at_skip rfl rfl rfl rfl ?_
    refine at_skip rfl rfl rfl rfl ?_
    refine at_skip rfl rfl rfl rfl ?_
    refine at_pure (pv_pick_f rfl rfl rfl) rfl ?_
    refine at_pure (pv_move rfl) rfl ?_
    refine at_skip rfl rfl rfl rfl ?_
    refine at_skip rfl rfl rfl rfl ?_
    refine at_skip rfl rfl rfl rfl ?_
    refine at_pure (pv_pick_f rfl rfl rfl) rfl ?_
    refine at_pure (pv_assign rfl) rfl ?_
    refine at_nil ?_
    refine ex_go ?_
    refine cd_ret ?_
    exact end_ret1 rfl rfl (fun w hs => ⟨by clear hs; refine congrArg (fun b => Ending.returned (.bool b)) ?_; first | (simp_all [validC]; done) | (simp_all [validC]; intros; omega), hs.keep⟩)

theorem state_any (a b c d : Int) (e : Bool) (w : World) : Calls Try.prog 32 [.agg #[.int .i64 a, .int .i64 b, .int .i64 c, .int .i64 d, .bool e]].toArray w (Val (.int .i64 (stateI a b c d e)) w) := by
  refine calls_body (n := 20) Try.func32 rfl rfl rfl (St.init _ []) ?_
  refine cd_seq ?_
  refine cd_region ?_
  refine at_does (does_box rfl .agg (fun _ => .nil)) rfl (fun g1 => ?_)
  refine at_pure (pv_assign rfl) rfl ?_
  refine at_nil ?_
  refine ex_go ?_
  refine cd_seq ?_
  refine cd_block ?_
  refine cd_seq ?_
  refine cd_region ?_
  refine at_pure (by exact pv_loads_box ag_54 rfl .z (.take (.take (.take (.take (.take .done)))))) rfl ?_
  refine at_does (does_val cal30 rfl rfl rfl (fun w hs => valid_any _ _ _ _ _ w)) rfl (fun _ => ?_)
  refine at_pure (pv_not rfl) rfl ?_
  refine at_pure (pv_assign rfl) rfl ?_
  refine at_nil ?_
  refine ex_go ?_
  refine cd_if rfl (fun hb1 => ?_) (fun hb1 => ?_)
  · skip
    refine cd_seq ?_
    refine cd_region ?_
    refine at_pure (pv_assign rfl) rfl ?_
    refine at_nil ?_
    refine ex_go ?_
    refine cd_ret ?_
    refine ex_in_ret (ex_then_ret ?_)
    exact end_ret1 rfl rfl (fun w hs => ⟨by clear hs; refine congrArg (fun b => Ending.returned (.int .i64 b)) ?_; unfold stateI; first | (rw [show validC a b c d = false by simpa using hb1]; rfl) | (rw [show validC a b c d = true by simpa using hb1, show e = true from hb2]; rfl) | (rw [show validC a b c d = true by simpa using hb1, show e = false from hb2, hb3]; first | rfl | (rw [hb4]; rfl)), hs.keep⟩)
  · skip
    refine cd_seq ?_
    refine cd_region ?_
    refine at_pure (pv_field0 fa_54_4 rfl (r := 4) rfl) rfl ?_
    refine at_pure (by exact pv_load ld_4 rfl (box_cell .z (.s (.s (.s (.s .z)))))) rfl ?_
    refine at_pure (pv_assign rfl) rfl ?_
    refine at_nil ?_
    refine ex_go ?_
    refine cd_if rfl (fun hb2 => ?_) (fun hb2 => ?_)
    · skip
      refine cd_seq ?_
      refine cd_region ?_
      refine at_pure (pv_assign rfl) rfl ?_
      refine at_nil ?_
      refine ex_go ?_
      refine cd_ret ?_
      refine ex_in_ret (ex_then_ret ?_)
      exact end_ret1 rfl rfl (fun w hs => ⟨by clear hs; refine congrArg (fun b => Ending.returned (.int .i64 b)) ?_; unfold stateI; first | (rw [show validC a b c d = false by simpa using hb1]; rfl) | (rw [show validC a b c d = true by simpa using hb1, show e = true from hb2]; rfl) | (rw [show validC a b c d = true by simpa using hb1, show e = false from hb2, hb3]; first | rfl | (rw [hb4]; rfl)), hs.keep⟩)
    · skip
      refine cd_seq ?_
      refine cd_region ?_
      refine at_pure (pv_field0 fa_54_3 rfl (r := 3) rfl) rfl ?_
      refine at_pure (by exact pv_load ld_3 rfl (box_cell .z (.s (.s (.s .z))))) rfl ?_
      refine at_pure (pv_field0 fa_54_0 rfl (r := 0) rfl) rfl ?_
      refine at_pure (by exact pv_load ld_3 rfl (box_cell .z .z)) rfl ?_
      refine at_pure (pv_gtr rfl rfl) rfl ?_
      refine at_pure (pv_assign rfl) rfl ?_
      refine at_nil ?_
      refine ex_go ?_
      refine cd_if rfl (fun hb3 => ?_) (fun hb3 => ?_)
      · skip
        refine cd_seq ?_
        refine cd_region ?_
        refine at_pure (pv_assign rfl) rfl ?_
        refine at_nil ?_
        refine ex_go ?_
        refine cd_ret ?_
        refine ex_in_ret (ex_then_ret ?_)
        exact end_ret1 rfl rfl (fun w hs => ⟨by clear hs; refine congrArg (fun b => Ending.returned (.int .i64 b)) ?_; unfold stateI; first | (rw [show validC a b c d = false by simpa using hb1]; rfl) | (rw [show validC a b c d = true by simpa using hb1, show e = true from hb2]; rfl) | (rw [show validC a b c d = true by simpa using hb1, show e = false from hb2, hb3]; first | rfl | (rw [hb4]; rfl)), hs.keep⟩)
      · skip
        refine cd_seq ?_
        refine cd_region ?_
        refine at_pure (pv_field0 fa_54_3 rfl (r := 3) rfl) rfl ?_
        refine at_pure (by exact pv_load ld_3 rfl (box_cell .z (.s (.s (.s .z))))) rfl ?_
        refine at_pure (pv_gtr rfl rfl) rfl ?_
        refine at_pure (pv_assign rfl) rfl ?_
        refine at_nil ?_
        refine ex_go ?_
        refine cd_if rfl (fun hb4 => ?_) (fun hb4 => ?_)
        · skip
          refine cd_seq ?_
          refine cd_region ?_
          refine at_pure (pv_assign rfl) rfl ?_
          refine at_nil ?_
          refine ex_go ?_
          refine cd_ret ?_
          refine ex_in_ret (ex_then_ret ?_)
          exact end_ret1 rfl rfl (fun w hs => ⟨by clear hs; refine congrArg (fun b => Ending.returned (.int .i64 b)) ?_; unfold stateI; first | (rw [show validC a b c d = false by simpa using hb1]; rfl) | (rw [show validC a b c d = true by simpa using hb1, show e = true from hb2]; rfl) | (rw [show validC a b c d = true by simpa using hb1, show e = false from hb2, hb3]; first | rfl | (rw [hb4]; rfl)), hs.keep⟩)
        · skip
          refine cd_skip ?_
          refine ex_in_normal (ex_go ?_)
          refine cd_seq ?_
          refine cd_region ?_
          refine at_pure (pv_assign rfl) rfl ?_
          refine at_nil ?_
          refine ex_go ?_
          refine cd_ret ?_
          exact end_ret1 rfl rfl (fun w hs => ⟨by clear hs; refine congrArg (fun b => Ending.returned (.int .i64 b)) ?_; unfold stateI; first | (rw [show validC a b c d = false by simpa using hb1]; rfl) | (rw [show validC a b c d = true by simpa using hb1, show e = true from hb2]; rfl) | (rw [show validC a b c d = true by simpa using hb1, show e = false from hb2, hb3]; first | rfl | (rw [hb4]; rfl)), hs.keep⟩)

theorem state_ref (a b c d : Int) (e : Bool) (w : World) : Calls Try.prog 33 [.agg #[.int .i64 a, .int .i64 b, .int .i64 c, .int .i64 d, .bool e]].toArray w (Val (.int .i64 (stateI a b c d e)) w) := by
  refine calls_body (n := 20) Try.func33 rfl rfl rfl (St.init _ []) ?_
  refine cd_seq ?_
  refine cd_region ?_
  refine at_does (does_box rfl .agg (fun _ => .nil)) rfl (fun g1 => ?_)
  refine at_pure (pv_assign rfl) rfl ?_
  refine at_nil ?_
  refine ex_go ?_
  refine cd_seq ?_
  refine cd_block ?_
  refine cd_seq ?_
  refine cd_region ?_
  refine at_pure (by exact pv_loads_box ag_54 rfl .z (.take (.take (.take (.take (.take .done)))))) rfl ?_
  refine at_does (does_val cal31 rfl rfl rfl (fun w hs => valid_ref _ _ _ _ _ w)) rfl (fun _ => ?_)
  refine at_pure (pv_not rfl) rfl ?_
  refine at_pure (pv_assign rfl) rfl ?_
  refine at_nil ?_
  refine ex_go ?_
  refine cd_if rfl (fun hb1 => ?_) (fun hb1 => ?_)
  · skip
    refine cd_seq ?_
    refine cd_region ?_
    refine at_pure (pv_assign rfl) rfl ?_
    refine at_nil ?_
    refine ex_go ?_
    refine cd_ret ?_
    refine ex_in_ret (ex_then_ret ?_)
    exact end_ret1 rfl rfl (fun w hs => ⟨by clear hs; refine congrArg (fun b => Ending.returned (.int .i64 b)) ?_; unfold stateI; first | (rw [show validC a b c d = false by simpa using hb1]; rfl) | (rw [show validC a b c d = true by simpa using hb1, show e = true from hb2]; rfl) | (rw [show validC a b c d = true by simpa using hb1, show e = false from hb2, hb3]; first | rfl | (rw [hb4]; rfl)), hs.keep⟩)
  · skip
    refine cd_seq ?_
    refine cd_region ?_
    refine at_pure (pv_field0 fa_54_4 rfl (r := 4) rfl) rfl ?_
    refine at_pure (by exact pv_load ld_4 rfl (box_cell .z (.s (.s (.s (.s .z)))))) rfl ?_
    refine at_pure (pv_assign rfl) rfl ?_
    refine at_nil ?_
    refine ex_go ?_
    refine cd_if rfl (fun hb2 => ?_) (fun hb2 => ?_)
    · skip
      refine cd_seq ?_
      refine cd_region ?_
      refine at_pure (pv_assign rfl) rfl ?_
      refine at_nil ?_
      refine ex_go ?_
      refine cd_ret ?_
      refine ex_in_ret (ex_then_ret ?_)
      exact end_ret1 rfl rfl (fun w hs => ⟨by clear hs; refine congrArg (fun b => Ending.returned (.int .i64 b)) ?_; unfold stateI; first | (rw [show validC a b c d = false by simpa using hb1]; rfl) | (rw [show validC a b c d = true by simpa using hb1, show e = true from hb2]; rfl) | (rw [show validC a b c d = true by simpa using hb1, show e = false from hb2, hb3]; first | rfl | (rw [hb4]; rfl)), hs.keep⟩)
    · skip
      refine cd_seq ?_
      refine cd_region ?_
      refine at_pure (pv_field0 fa_54_3 rfl (r := 3) rfl) rfl ?_
      refine at_pure (by exact pv_load ld_3 rfl (box_cell .z (.s (.s (.s .z))))) rfl ?_
      refine at_pure (pv_field0 fa_54_0 rfl (r := 0) rfl) rfl ?_
      refine at_pure (by exact pv_load ld_3 rfl (box_cell .z .z)) rfl ?_
      refine at_pure (pv_gtr rfl rfl) rfl ?_
      refine at_pure (pv_assign rfl) rfl ?_
      refine at_nil ?_
      refine ex_go ?_
      refine cd_if rfl (fun hb3 => ?_) (fun hb3 => ?_)
      · skip
        refine cd_seq ?_
        refine cd_region ?_
        refine at_pure (pv_assign rfl) rfl ?_
        refine at_nil ?_
        refine ex_go ?_
        refine cd_ret ?_
        refine ex_in_ret (ex_then_ret ?_)
        exact end_ret1 rfl rfl (fun w hs => ⟨by clear hs; refine congrArg (fun b => Ending.returned (.int .i64 b)) ?_; unfold stateI; first | (rw [show validC a b c d = false by simpa using hb1]; rfl) | (rw [show validC a b c d = true by simpa using hb1, show e = true from hb2]; rfl) | (rw [show validC a b c d = true by simpa using hb1, show e = false from hb2, hb3]; first | rfl | (rw [hb4]; rfl)), hs.keep⟩)
      · skip
        refine cd_seq ?_
        refine cd_region ?_
        refine at_pure (pv_field0 fa_54_3 rfl (r := 3) rfl) rfl ?_
        refine at_pure (by exact pv_load ld_3 rfl (box_cell .z (.s (.s (.s .z))))) rfl ?_
        refine at_pure (pv_gtr rfl rfl) rfl ?_
        refine at_pure (pv_assign rfl) rfl ?_
        refine at_nil ?_
        refine ex_go ?_
        refine cd_if rfl (fun hb4 => ?_) (fun hb4 => ?_)
        · skip
          refine cd_seq ?_
          refine cd_region ?_
          refine at_pure (pv_assign rfl) rfl ?_
          refine at_nil ?_
          refine ex_go ?_
          refine cd_ret ?_
          refine ex_in_ret (ex_then_ret ?_)
          exact end_ret1 rfl rfl (fun w hs => ⟨by clear hs; refine congrArg (fun b => Ending.returned (.int .i64 b)) ?_; unfold stateI; first | (rw [show validC a b c d = false by simpa using hb1]; rfl) | (rw [show validC a b c d = true by simpa using hb1, show e = true from hb2]; rfl) | (rw [show validC a b c d = true by simpa using hb1, show e = false from hb2, hb3]; first | rfl | (rw [hb4]; rfl)), hs.keep⟩)
        · skip
          refine cd_skip ?_
          refine ex_in_normal (ex_go ?_)
          refine cd_seq ?_
          refine cd_region ?_
          refine at_pure (pv_assign rfl) rfl ?_
          refine at_nil ?_
          refine ex_go ?_
          refine cd_ret ?_
          exact end_ret1 rfl rfl (fun w hs => ⟨by clear hs; refine congrArg (fun b => Ending.returned (.int .i64 b)) ?_; unfold stateI; first | (rw [show validC a b c d = false by simpa using hb1]; rfl) | (rw [show validC a b c d = true by simpa using hb1, show e = true from hb2]; rfl) | (rw [show validC a b c d = true by simpa using hb1, show e = false from hb2, hb3]; first | rfl | (rw [hb4]; rfl)), hs.keep⟩)

theorem die_any (a b c d : Int) (e : Bool) (w : World) : Calls Try.prog 34 [.agg #[.int .i64 a, .int .i64 b, .int .i64 c, .int .i64 d, .bool e]].toArray w (Val (.agg #[.int .i64 a, .int .i64 b, .int .i64 c, .int .i64 d, .bool true]) w) := by
  refine calls_body (n := 5) Try.func34 rfl rfl rfl (St.init _ []) ?_
  refine cd_seq ?_
  refine cd_region ?_
  refine at_does (does_box rfl .agg (fun _ => .nil)) rfl (fun g1 => ?_)
  refine at_does (does_alloc ze_54 .agg (fun _ => (.cons .nil))) rfl (fun g2 => ?_)
  refine at_nil ?_
  refine ex_go ?_
  refine cd_seq ?_
  refine cd_region ?_
  refine at_pure (pv_field0 fa_54_4 rfl (r := 4) rfl) rfl ?_
  refine at_turns (by exact turns_store sz_4 rfl rfl (.one rfl) rfl rfl .z (.skip (.skip (.skip (.skip (.rep .done))))) .z) ?_
  refine at_nil ?_
  refine ex_go ?_
  refine cd_seq ?_
  refine cd_region ?_
  refine at_pure (by exact pv_loads_box ag_54 rfl .z (.take (.take (.take (.take (.take .done)))))) rfl ?_
  refine at_turns (by exact turns_store sz_54 rfl rfl .agg rfl rfl (.s .z) (.rep (.rep (.rep (.rep (.rep .done))))) (.s .z)) ?_
  refine at_nil ?_
  refine ex_go ?_
  refine cd_ret ?_
  exact end_c rfl (by exact Lies.box ag_54 rfl (.s .z) rfl) (fun w hs => Val.mk hs)

theorem die_ref (a b c d : Int) (e : Bool) (w : World) : Calls Try.prog 35 [.agg #[.int .i64 a, .int .i64 b, .int .i64 c, .int .i64 d, .bool e]].toArray w (Val (.agg #[.int .i64 a, .int .i64 b, .int .i64 c, .int .i64 d, .bool true]) w) := by
  refine calls_body (n := 5) Try.func35 rfl rfl rfl (St.init _ []) ?_
  refine cd_seq ?_
  refine cd_region ?_
  refine at_does (does_box rfl .agg (fun _ => .nil)) rfl (fun g1 => ?_)
  refine at_does (does_alloc ze_54 .agg (fun _ => (.cons .nil))) rfl (fun g2 => ?_)
  refine at_nil ?_
  refine ex_go ?_
  refine cd_seq ?_
  refine cd_region ?_
  refine at_pure (pv_field0 fa_54_4 rfl (r := 4) rfl) rfl ?_
  refine at_turns (by exact turns_store sz_4 rfl rfl (.one rfl) rfl rfl .z (.skip (.skip (.skip (.skip (.rep .done))))) .z) ?_
  refine at_nil ?_
  refine ex_go ?_
  refine cd_seq ?_
  refine cd_region ?_
  refine at_pure (by exact pv_loads_box ag_54 rfl .z (.take (.take (.take (.take (.take .done)))))) rfl ?_
  refine at_turns (by exact turns_store sz_54 rfl rfl .agg rfl rfl (.s .z) (.rep (.rep (.rep (.rep (.rep .done))))) (.s .z)) ?_
  refine at_nil ?_
  refine ex_go ?_
  refine cd_ret ?_
  exact end_c rfl (by exact Lies.box ag_54 rfl (.s .z) rfl) (fun w hs => Val.mk hs)

theorem wrote_any (a b c d : Int) (e : Bool) (n : Int) (w : World) : Calls Try.prog 36 [.agg #[.int .i64 a, .int .i64 b, .int .i64 c, .int .i64 d, .bool e], .int .i64 n].toArray w (Val (wroteV a b c d e n) w) := by
  refine calls_body (n := 32) Try.func36 rfl rfl rfl (St.init _ []) ?_
  refine cd_seq ?_
  refine cd_region ?_
  refine at_does (does_box rfl .agg (fun _ => .nil)) rfl (fun g1 => ?_)
  refine at_does (does_alloc ze_54 .agg (fun _ => (.cons .nil))) rfl (fun g2 => ?_)
  refine at_pure (pv_assign rfl) rfl ?_
  refine at_nil ?_
  refine ex_go ?_
  refine cd_seq ?_
  refine cd_block ?_
  refine cd_seq ?_
  refine cd_region ?_
  refine at_pure (by exact pv_loads_box ag_54 rfl .z (.take (.take (.take (.take (.take .done)))))) rfl ?_
  refine at_does (does_val cal30 rfl rfl rfl (fun w hs => valid_any _ _ _ _ _ w)) rfl (fun _ => ?_)
  refine at_pure (pv_not rfl) rfl ?_
  refine at_pure (pv_assign rfl) rfl ?_
  refine at_nil ?_
  refine ex_go ?_
  refine cd_if rfl (fun hb1 => ?_) (fun hb1 => ?_)
  · skip
    refine cd_seq ?_
    refine cd_region ?_
    refine at_pure (pv_build rfl (bu_54_)) rfl ?_
    refine at_turns (by exact turns_store sz_54 rfl rfl .agg rfl rfl (.s .z) (.rep (.rep (.rep (.rep (.rep .done))))) (.s .z)) ?_
    refine at_pure (pv_assign rfl) rfl ?_
    refine at_nil ?_
    refine ex_go ?_
    refine cd_ret ?_
    refine ex_in_ret (ex_then_ret ?_)
    exact end_ct rfl (by exact Lies.box ag_54 rfl (.s .z) rfl) rfl (fun w hs => ⟨by clear hs; first | exact congrArg Ending.returned (wroteV_1 a b c d e n (by simpa using hb1)).symm | (obtain rfl : e = true := hb2; exact congrArg Ending.returned (wroteV_2 a b c d n (by simpa using hb1)).symm) | (obtain rfl : e = false := hb2; first | exact congrArg Ending.returned (wroteV_3 a b c d n (by simpa using hb1) (by simpa using hb3)).symm | exact congrArg Ending.returned (wroteV_4 a b c d n q1 q2 (by simpa using hb4)).symm | exact congrArg Ending.returned (wroteV_ok a b c d n q1 q2 q3).symm), hs.keep⟩)
  · skip
    refine cd_seq ?_
    refine cd_region ?_
    refine at_pure (pv_field0 fa_54_4 rfl (r := 4) rfl) rfl ?_
    refine at_pure (by exact pv_load ld_4 rfl (box_cell .z (.s (.s (.s (.s .z)))))) rfl ?_
    refine at_pure (pv_assign rfl) rfl ?_
    refine at_nil ?_
    refine ex_go ?_
    refine cd_if rfl (fun hb2 => ?_) (fun hb2 => ?_)
    · skip
      refine cd_seq ?_
      refine cd_region ?_
      refine at_pure (pv_build rfl (bu_54_)) rfl ?_
      refine at_turns (by exact turns_store sz_54 rfl rfl .agg rfl rfl (.s .z) (.rep (.rep (.rep (.rep (.rep .done))))) (.s .z)) ?_
      refine at_pure (pv_assign rfl) rfl ?_
      refine at_nil ?_
      refine ex_go ?_
      refine cd_ret ?_
      refine ex_in_ret (ex_then_ret ?_)
      exact end_ct rfl (by exact Lies.box ag_54 rfl (.s .z) rfl) rfl (fun w hs => ⟨by clear hs; first | exact congrArg Ending.returned (wroteV_1 a b c d e n (by simpa using hb1)).symm | (obtain rfl : e = true := hb2; exact congrArg Ending.returned (wroteV_2 a b c d n (by simpa using hb1)).symm) | (obtain rfl : e = false := hb2; first | exact congrArg Ending.returned (wroteV_3 a b c d n (by simpa using hb1) (by simpa using hb3)).symm | exact congrArg Ending.returned (wroteV_4 a b c d n q1 q2 (by simpa using hb4)).symm | exact congrArg Ending.returned (wroteV_ok a b c d n q1 q2 q3).symm), hs.keep⟩)
    · skip
      refine cd_seq ?_
      refine cd_region ?_
      refine at_pure (pv_move rfl) rfl ?_
      refine at_pure (pv_lss rfl rfl) rfl ?_
      refine at_pure (pv_assign rfl) rfl ?_
      refine at_nil ?_
      refine ex_go ?_
      refine cd_if rfl (fun hb3 => ?_) (fun hb3 => ?_)
      · skip
        refine cd_seq ?_
        refine cd_region ?_
        refine at_pure (pv_build rfl (bu_54_)) rfl ?_
        refine at_turns (by exact turns_store sz_54 rfl rfl .agg rfl rfl (.s .z) (.rep (.rep (.rep (.rep (.rep .done))))) (.s .z)) ?_
        refine at_pure (pv_assign rfl) rfl ?_
        refine at_nil ?_
        refine ex_go ?_
        refine cd_ret ?_
        refine ex_in_ret (ex_then_ret ?_)
        exact end_ct rfl (by exact Lies.box ag_54 rfl (.s .z) rfl) rfl (fun w hs => ⟨by clear hs; first | exact congrArg Ending.returned (wroteV_1 a b c d e n (by simpa using hb1)).symm | (obtain rfl : e = true := hb2; exact congrArg Ending.returned (wroteV_2 a b c d n (by simpa using hb1)).symm) | (obtain rfl : e = false := hb2; first | exact congrArg Ending.returned (wroteV_3 a b c d n (by simpa using hb1) (by simpa using hb3)).symm | exact congrArg Ending.returned (wroteV_4 a b c d n q1 q2 (by simpa using hb4)).symm | exact congrArg Ending.returned (wroteV_ok a b c d n q1 q2 q3).symm), hs.keep⟩)
      · skip
        refine cd_seq ?_
        have q1 : validC a b c d = true := by simpa using hb1
        have q1' := (validC_iff a b c d).1 q1
        have q2 : 0 ≤ n := by simpa using hb3
        refine cd_region ?_
        refine at_pure (pv_move rfl) rfl ?_
        refine at_pure (pv_field0 fa_54_1 rfl (r := 1) rfl) rfl ?_
        refine at_pure (by exact pv_load ld_2 rfl (box_cell .z (.s .z))) rfl ?_
        refine at_pure (by first | exact pv_sub_n rfl rfl (by unfold In64; omega) | exact pv_sub rfl rfl) rfl ?_
        refine at_pure (pv_gtr rfl rfl) rfl ?_
        refine at_pure (pv_assign rfl) rfl ?_
        refine at_nil ?_
        refine ex_go ?_
        refine cd_if rfl (fun hb4 => ?_) (fun hb4 => ?_)
        · skip
          refine cd_seq ?_
          refine cd_region ?_
          refine at_pure (pv_build rfl (bu_54_)) rfl ?_
          refine at_turns (by exact turns_store sz_54 rfl rfl .agg rfl rfl (.s .z) (.rep (.rep (.rep (.rep (.rep .done))))) (.s .z)) ?_
          refine at_pure (pv_assign rfl) rfl ?_
          refine at_nil ?_
          refine ex_go ?_
          refine cd_ret ?_
          refine ex_in_ret (ex_then_ret ?_)
          exact end_ct rfl (by exact Lies.box ag_54 rfl (.s .z) rfl) rfl (fun w hs => ⟨by clear hs; first | exact congrArg Ending.returned (wroteV_1 a b c d e n (by simpa using hb1)).symm | (obtain rfl : e = true := hb2; exact congrArg Ending.returned (wroteV_2 a b c d n (by simpa using hb1)).symm) | (obtain rfl : e = false := hb2; first | exact congrArg Ending.returned (wroteV_3 a b c d n (by simpa using hb1) (by simpa using hb3)).symm | exact congrArg Ending.returned (wroteV_4 a b c d n q1 q2 (by simpa using hb4)).symm | exact congrArg Ending.returned (wroteV_ok a b c d n q1 q2 q3).symm), hs.keep⟩)
        · skip
          refine cd_skip ?_
          refine ex_in_normal (ex_go ?_)
          refine cd_seq ?_
          have q3 : n ≤ 1099511627776 - b := by simpa using hb4
          refine cd_region ?_
          refine at_pure (pv_field0 fa_54_1 rfl (r := 1) rfl) rfl ?_
          refine at_pure (by exact pv_load ld_2 rfl (box_cell .z (.s .z))) rfl ?_
          refine at_pure (pv_move rfl) rfl ?_
          refine at_pure (by first | exact pv_add_n rfl rfl (by unfold In64; omega) | exact pv_add rfl rfl) rfl ?_
          refine at_pure (pv_field0 fa_54_1 rfl (r := 1) rfl) rfl ?_
          refine at_turns (by exact turns_store sz_2 rfl rfl (.one rfl) rfl rfl .z (.skip (.rep .done)) .z) ?_
          refine at_nil ?_
          refine ex_go ?_
          refine cd_seq ?_
          refine cd_region ?_
          refine at_pure (by exact pv_loads_box ag_54 rfl .z (.take (.take (.take (.take (.take .done)))))) rfl ?_
          refine at_turns (by exact turns_store sz_54 rfl rfl .agg rfl rfl (.s .z) (.rep (.rep (.rep (.rep (.rep .done))))) (.s .z)) ?_
          refine at_pure (pv_assign rfl) rfl ?_
          refine at_nil ?_
          refine ex_go ?_
          refine cd_ret ?_
          exact end_ct rfl (by exact Lies.box ag_54 rfl (.s .z) rfl) rfl (fun w hs => ⟨by clear hs; first | exact congrArg Ending.returned (wroteV_1 a b c d e n (by simpa using hb1)).symm | (obtain rfl : e = true := hb2; exact congrArg Ending.returned (wroteV_2 a b c d n (by simpa using hb1)).symm) | (obtain rfl : e = false := hb2; first | exact congrArg Ending.returned (wroteV_3 a b c d n (by simpa using hb1) (by simpa using hb3)).symm | exact congrArg Ending.returned (wroteV_4 a b c d n q1 q2 (by simpa using hb4)).symm | exact congrArg Ending.returned (wroteV_ok a b c d n q1 q2 q3).symm), hs.keep⟩)

theorem wrote_ref (a b c d : Int) (e : Bool) (n : Int) (w : World) : Calls Try.prog 37 [.agg #[.int .i64 a, .int .i64 b, .int .i64 c, .int .i64 d, .bool e], .int .i64 n].toArray w (Val (wroteV a b c d e n) w) := by
  refine calls_body (n := 32) Try.func37 rfl rfl rfl (St.init _ []) ?_
  refine cd_seq ?_
  refine cd_region ?_
  refine at_does (does_box rfl .agg (fun _ => .nil)) rfl (fun g1 => ?_)
  refine at_does (does_alloc ze_54 .agg (fun _ => (.cons .nil))) rfl (fun g2 => ?_)
  refine at_pure (pv_assign rfl) rfl ?_
  refine at_nil ?_
  refine ex_go ?_
  refine cd_seq ?_
  refine cd_block ?_
  refine cd_seq ?_
  refine cd_region ?_
  refine at_pure (by exact pv_loads_box ag_54 rfl .z (.take (.take (.take (.take (.take .done)))))) rfl ?_
  refine at_does (does_val cal31 rfl rfl rfl (fun w hs => valid_ref _ _ _ _ _ w)) rfl (fun _ => ?_)
  refine at_pure (pv_not rfl) rfl ?_
  refine at_pure (pv_assign rfl) rfl ?_
  refine at_nil ?_
  refine ex_go ?_
  refine cd_if rfl (fun hb1 => ?_) (fun hb1 => ?_)
  · skip
    refine cd_seq ?_
    refine cd_region ?_
    refine at_pure (pv_build rfl (bu_54_)) rfl ?_
    refine at_turns (by exact turns_store sz_54 rfl rfl .agg rfl rfl (.s .z) (.rep (.rep (.rep (.rep (.rep .done))))) (.s .z)) ?_
    refine at_pure (pv_assign rfl) rfl ?_
    refine at_nil ?_
    refine ex_go ?_
    refine cd_ret ?_
    refine ex_in_ret (ex_then_ret ?_)
    exact end_ct rfl (by exact Lies.box ag_54 rfl (.s .z) rfl) rfl (fun w hs => ⟨by clear hs; first | exact congrArg Ending.returned (wroteV_1 a b c d e n (by simpa using hb1)).symm | (obtain rfl : e = true := hb2; exact congrArg Ending.returned (wroteV_2 a b c d n (by simpa using hb1)).symm) | (obtain rfl : e = false := hb2; first | exact congrArg Ending.returned (wroteV_3 a b c d n (by simpa using hb1) (by simpa using hb3)).symm | exact congrArg Ending.returned (wroteV_4 a b c d n q1 q2 (by simpa using hb4)).symm | exact congrArg Ending.returned (wroteV_ok a b c d n q1 q2 q3).symm), hs.keep⟩)
  · skip
    refine cd_seq ?_
    refine cd_region ?_
    refine at_pure (pv_field0 fa_54_4 rfl (r := 4) rfl) rfl ?_
    refine at_pure (by exact pv_load ld_4 rfl (box_cell .z (.s (.s (.s (.s .z)))))) rfl ?_
    refine at_pure (pv_assign rfl) rfl ?_
    refine at_nil ?_
    refine ex_go ?_
    refine cd_if rfl (fun hb2 => ?_) (fun hb2 => ?_)
    · skip
      refine cd_seq ?_
      refine cd_region ?_
      refine at_pure (pv_build rfl (bu_54_)) rfl ?_
      refine at_turns (by exact turns_store sz_54 rfl rfl .agg rfl rfl (.s .z) (.rep (.rep (.rep (.rep (.rep .done))))) (.s .z)) ?_
      refine at_pure (pv_assign rfl) rfl ?_
      refine at_nil ?_
      refine ex_go ?_
      refine cd_ret ?_
      refine ex_in_ret (ex_then_ret ?_)
      exact end_ct rfl (by exact Lies.box ag_54 rfl (.s .z) rfl) rfl (fun w hs => ⟨by clear hs; first | exact congrArg Ending.returned (wroteV_1 a b c d e n (by simpa using hb1)).symm | (obtain rfl : e = true := hb2; exact congrArg Ending.returned (wroteV_2 a b c d n (by simpa using hb1)).symm) | (obtain rfl : e = false := hb2; first | exact congrArg Ending.returned (wroteV_3 a b c d n (by simpa using hb1) (by simpa using hb3)).symm | exact congrArg Ending.returned (wroteV_4 a b c d n q1 q2 (by simpa using hb4)).symm | exact congrArg Ending.returned (wroteV_ok a b c d n q1 q2 q3).symm), hs.keep⟩)
    · skip
      refine cd_seq ?_
      refine cd_region ?_
      refine at_pure (pv_move rfl) rfl ?_
      refine at_pure (pv_lss rfl rfl) rfl ?_
      refine at_pure (pv_assign rfl) rfl ?_
      refine at_nil ?_
      refine ex_go ?_
      refine cd_if rfl (fun hb3 => ?_) (fun hb3 => ?_)
      · skip
        refine cd_seq ?_
        refine cd_region ?_
        refine at_pure (pv_build rfl (bu_54_)) rfl ?_
        refine at_turns (by exact turns_store sz_54 rfl rfl .agg rfl rfl (.s .z) (.rep (.rep (.rep (.rep (.rep .done))))) (.s .z)) ?_
        refine at_pure (pv_assign rfl) rfl ?_
        refine at_nil ?_
        refine ex_go ?_
        refine cd_ret ?_
        refine ex_in_ret (ex_then_ret ?_)
        exact end_ct rfl (by exact Lies.box ag_54 rfl (.s .z) rfl) rfl (fun w hs => ⟨by clear hs; first | exact congrArg Ending.returned (wroteV_1 a b c d e n (by simpa using hb1)).symm | (obtain rfl : e = true := hb2; exact congrArg Ending.returned (wroteV_2 a b c d n (by simpa using hb1)).symm) | (obtain rfl : e = false := hb2; first | exact congrArg Ending.returned (wroteV_3 a b c d n (by simpa using hb1) (by simpa using hb3)).symm | exact congrArg Ending.returned (wroteV_4 a b c d n q1 q2 (by simpa using hb4)).symm | exact congrArg Ending.returned (wroteV_ok a b c d n q1 q2 q3).symm), hs.keep⟩)
      · skip
        refine cd_seq ?_
        have q1 : validC a b c d = true := by simpa using hb1
        have q1' := (validC_iff a b c d).1 q1
        have q2 : 0 ≤ n := by simpa using hb3
        refine cd_region ?_
        refine at_pure (pv_move rfl) rfl ?_
        refine at_pure (pv_field0 fa_54_1 rfl (r := 1) rfl) rfl ?_
        refine at_pure (by exact pv_load ld_2 rfl (box_cell .z (.s .z))) rfl ?_
        refine at_pure (by first | exact pv_sub_n rfl rfl (by unfold In64; omega) | exact pv_sub rfl rfl) rfl ?_
        refine at_pure (pv_gtr rfl rfl) rfl ?_
        refine at_pure (pv_assign rfl) rfl ?_
        refine at_nil ?_
        refine ex_go ?_
        refine cd_if rfl (fun hb4 => ?_) (fun hb4 => ?_)
        · skip
          refine cd_seq ?_
          refine cd_region ?_
          refine at_pure (pv_build rfl (bu_54_)) rfl ?_
          refine at_turns (by exact turns_store sz_54 rfl rfl .agg rfl rfl (.s .z) (.rep (.rep (.rep (.rep (.rep .done))))) (.s .z)) ?_
          refine at_pure (pv_assign rfl) rfl ?_
          refine at_nil ?_
          refine ex_go ?_
          refine cd_ret ?_
          refine ex_in_ret (ex_then_ret ?_)
          exact end_ct rfl (by exact Lies.box ag_54 rfl (.s .z) rfl) rfl (fun w hs => ⟨by clear hs; first | exact congrArg Ending.returned (wroteV_1 a b c d e n (by simpa using hb1)).symm | (obtain rfl : e = true := hb2; exact congrArg Ending.returned (wroteV_2 a b c d n (by simpa using hb1)).symm) | (obtain rfl : e = false := hb2; first | exact congrArg Ending.returned (wroteV_3 a b c d n (by simpa using hb1) (by simpa using hb3)).symm | exact congrArg Ending.returned (wroteV_4 a b c d n q1 q2 (by simpa using hb4)).symm | exact congrArg Ending.returned (wroteV_ok a b c d n q1 q2 q3).symm), hs.keep⟩)
        · skip
          refine cd_skip ?_
          refine ex_in_normal (ex_go ?_)
          refine cd_seq ?_
          have q3 : n ≤ 1099511627776 - b := by simpa using hb4
          refine cd_region ?_
          refine at_pure (pv_field0 fa_54_1 rfl (r := 1) rfl) rfl ?_
          refine at_pure (by exact pv_load ld_2 rfl (box_cell .z (.s .z))) rfl ?_
          refine at_pure (pv_move rfl) rfl ?_
          refine at_pure (by first | exact pv_add_n rfl rfl (by unfold In64; omega) | exact pv_add rfl rfl) rfl ?_
          refine at_pure (pv_field0 fa_54_1 rfl (r := 1) rfl) rfl ?_
          refine at_turns (by exact turns_store sz_2 rfl rfl (.one rfl) rfl rfl .z (.skip (.rep .done)) .z) ?_
          refine at_nil ?_
          refine ex_go ?_
          refine cd_seq ?_
          refine cd_region ?_
          refine at_pure (by exact pv_loads_box ag_54 rfl .z (.take (.take (.take (.take (.take .done)))))) rfl ?_
          refine at_turns (by exact turns_store sz_54 rfl rfl .agg rfl rfl (.s .z) (.rep (.rep (.rep (.rep (.rep .done))))) (.s .z)) ?_
          refine at_pure (pv_assign rfl) rfl ?_
          refine at_nil ?_
          refine ex_go ?_
          refine cd_ret ?_
          exact end_ct rfl (by exact Lies.box ag_54 rfl (.s .z) rfl) rfl (fun w hs => ⟨by clear hs; first | exact congrArg Ending.returned (wroteV_1 a b c d e n (by simpa using hb1)).symm | (obtain rfl : e = true := hb2; exact congrArg Ending.returned (wroteV_2 a b c d n (by simpa using hb1)).symm) | (obtain rfl : e = false := hb2; first | exact congrArg Ending.returned (wroteV_3 a b c d n (by simpa using hb1) (by simpa using hb3)).symm | exact congrArg Ending.returned (wroteV_4 a b c d n q1 q2 (by simpa using hb4)).symm | exact congrArg Ending.returned (wroteV_ok a b c d n q1 q2 q3).symm), hs.keep⟩)

theorem tick_any (a b c d : Int) (e : Bool) (n : Int) (w : World) (hn : n ≤ 9223372036854775807) : Calls Try.prog 38 [.agg #[.int .i64 a, .int .i64 b, .int .i64 c, .int .i64 d, .bool e], .int .i64 n].toArray w (Val (tickV a b c d e n) w) := by
  refine calls_body (n := 43) Try.func38 rfl rfl rfl (St.init _ []) ?_
  refine cd_seq ?_
  refine cd_region ?_
  refine at_does (does_box rfl .agg (fun _ => .nil)) rfl (fun g1 => ?_)
  refine at_does (does_alloc ze_54 .agg (fun _ => (.cons .nil))) rfl (fun g2 => ?_)
  refine at_pure (pv_assign rfl) rfl ?_
  refine at_pure (pv_assign rfl) rfl ?_
  refine at_nil ?_
  refine ex_go ?_
  refine cd_seq ?_
  refine cd_block ?_
  refine cd_seq ?_
  refine cd_region ?_
  refine at_pure (by exact pv_loads_box ag_54 rfl .z (.take (.take (.take (.take (.take .done)))))) rfl ?_
  refine at_does (does_val cal30 rfl rfl rfl (fun w hs => valid_any _ _ _ _ _ w)) rfl (fun _ => ?_)
  refine at_pure (pv_not rfl) rfl ?_
  refine at_pure (pv_assign rfl) rfl ?_
  refine at_nil ?_
  refine ex_go ?_
  refine cd_if rfl (fun hb1 => ?_) (fun hb1 => ?_)
  · skip
    refine cd_seq ?_
    refine cd_region ?_
    refine at_pure (pv_build rfl (bu_54_)) rfl ?_
    refine at_turns (by exact turns_store sz_54 rfl rfl .agg rfl rfl (.s .z) (.rep (.rep (.rep (.rep (.rep .done))))) (.s .z)) ?_
    refine at_pure (pv_assign rfl) rfl ?_
    refine at_pure (pv_assign rfl) rfl ?_
    refine at_nil ?_
    refine ex_go ?_
    refine cd_ret ?_
    refine ex_in_ret (ex_then_ret ?_)
    exact end_ctt rfl (by exact Lies.box ag_54 rfl (.s .z) rfl) rfl rfl (fun w hs => ⟨by clear hs; first | exact congrArg Ending.returned (tickV_no a b c d e n (by simpa using hb1)).symm | exact congrArg Ending.returned (tickV_neg a b c d e n (by simpa using hb1) (by simpa using hb2)).symm | (rw [tickV_ok a b c d e n q1 q2]; unfold late; rw [if_pos (show n - took b c n = 0 from by simpa using hb3)]) | (rw [tickV_ok a b c d e n q1 q2]; unfold late; rw [if_neg (show ¬ n - took b c n = 0 from by simpa using hb3)]), hs.keep⟩)
  · skip
    refine cd_seq ?_
    refine cd_region ?_
    refine at_pure (pv_move rfl) rfl ?_
    refine at_pure (pv_lss rfl rfl) rfl ?_
    refine at_pure (pv_assign rfl) rfl ?_
    refine at_nil ?_
    refine ex_go ?_
    refine cd_if rfl (fun hb2 => ?_) (fun hb2 => ?_)
    · skip
      refine cd_seq ?_
      refine cd_region ?_
      refine at_pure (pv_build rfl (bu_54_)) rfl ?_
      refine at_turns (by exact turns_store sz_54 rfl rfl .agg rfl rfl (.s .z) (.rep (.rep (.rep (.rep (.rep .done))))) (.s .z)) ?_
      refine at_pure (pv_assign rfl) rfl ?_
      refine at_pure (pv_assign rfl) rfl ?_
      refine at_nil ?_
      refine ex_go ?_
      refine cd_ret ?_
      refine ex_in_ret (ex_then_ret ?_)
      exact end_ctt rfl (by exact Lies.box ag_54 rfl (.s .z) rfl) rfl rfl (fun w hs => ⟨by clear hs; first | exact congrArg Ending.returned (tickV_no a b c d e n (by simpa using hb1)).symm | exact congrArg Ending.returned (tickV_neg a b c d e n (by simpa using hb1) (by simpa using hb2)).symm | (rw [tickV_ok a b c d e n q1 q2]; unfold late; rw [if_pos (show n - took b c n = 0 from by simpa using hb3)]) | (rw [tickV_ok a b c d e n q1 q2]; unfold late; rw [if_neg (show ¬ n - took b c n = 0 from by simpa using hb3)]), hs.keep⟩)
    · skip
      refine cd_skip ?_
      refine ex_in_normal (ex_go ?_)
      refine cd_seq ?_
      have q1 : validC a b c d = true := by simpa using hb1
      have q1' := (validC_iff a b c d).1 q1
      have q2 : 0 ≤ n := by simpa using hb2
      refine cd_region ?_
      refine at_pure (pv_move rfl) rfl ?_
      refine at_pure (pv_field0 fa_54_1 rfl (r := 1) rfl) rfl ?_
      refine at_pure (by exact pv_load ld_2 rfl (box_cell .z (.s .z))) rfl ?_
      refine at_pure (pv_field0 fa_54_2 rfl (r := 2) rfl) rfl ?_
      refine at_pure (by exact pv_load ld_2 rfl (box_cell .z (.s (.s .z)))) rfl ?_
      refine at_pure (by first | exact pv_sub_n rfl rfl (by unfold In64; omega) | exact pv_sub rfl rfl) rfl ?_
      refine at_pure (pv_min rfl rfl) rfl ?_
      refine at_pure (pv_assign rfl) rfl ?_
      refine at_nil ?_
      refine ex_go ?_
      refine cd_seq ?_
      have q3 : 0 ≤ took b c n ∧ took b c n ≤ n ∧ took b c n ≤ b - c := by unfold took; omega
      change Cd _ _ _ _ ((7, .int .i64 (took b c n)) :: _) _ _ _
      refine cd_region ?_
      refine at_pure (pv_move rfl) rfl ?_
      refine at_pure (pv_move rfl) rfl ?_
      refine at_pure (by first | exact pv_sub_n rfl rfl (by unfold In64; omega) | exact pv_sub rfl rfl) rfl ?_
      refine at_pure (pv_assign rfl) rfl ?_
      refine at_nil ?_
      refine ex_go ?_
      refine cd_seq ?_
      refine cd_region ?_
      refine at_pure (pv_field0 fa_54_2 rfl (r := 2) rfl) rfl ?_
      refine at_pure (by exact pv_load ld_2 rfl (box_cell .z (.s (.s .z)))) rfl ?_
      refine at_pure (pv_move rfl) rfl ?_
      refine at_pure (by first | exact pv_add_n rfl rfl (by unfold In64; omega) | exact pv_add rfl rfl) rfl ?_
      refine at_pure (pv_field0 fa_54_2 rfl (r := 2) rfl) rfl ?_
      refine at_turns (by exact turns_store sz_2 rfl rfl (.one rfl) rfl rfl .z (.skip (.skip (.rep .done))) .z) ?_
      refine at_nil ?_
      refine ex_go ?_
      refine cd_seq ?_
      refine cd_seq ?_
      refine cd_region ?_
      refine at_pure (pv_move rfl) rfl ?_
      refine at_pure (pv_eql rfl rfl) rfl ?_
      refine at_nil ?_
      refine ex_go ?_
      refine cd_if rfl (fun hb3 => ?_) (fun hb3 => ?_)
      · skip
        refine cd_region ?_
        refine at_pure (pv_field0 fa_54_3 rfl (r := 3) rfl) rfl ?_
        refine at_turns (by exact turns_store sz_3 rfl rfl (.one rfl) rfl rfl .z (.skip (.skip (.skip (.rep .done)))) .z) ?_
        refine at_nil ?_
        refine ex_go ?_
        refine cd_seq ?_
        refine cd_region ?_
        refine at_pure (by exact pv_loads_box ag_54 rfl .z (.take (.take (.take (.take (.take .done)))))) rfl ?_
        refine at_pure (pv_move rfl) rfl ?_
        refine at_turns (by exact turns_store sz_54 rfl rfl .agg rfl rfl (.s .z) (.rep (.rep (.rep (.rep (.rep .done))))) (.s .z)) ?_
        refine at_pure (pv_assign rfl) rfl ?_
        refine at_pure (pv_assign rfl) rfl ?_
        refine at_nil ?_
        refine ex_go ?_
        refine cd_ret ?_
        exact end_ctt rfl (by exact Lies.box ag_54 rfl (.s .z) rfl) rfl rfl (fun w hs => ⟨by clear hs; first | exact congrArg Ending.returned (tickV_no a b c d e n (by simpa using hb1)).symm | exact congrArg Ending.returned (tickV_neg a b c d e n (by simpa using hb1) (by simpa using hb2)).symm | (rw [tickV_ok a b c d e n q1 q2]; unfold late; rw [if_pos (show n - took b c n = 0 from by simpa using hb3)]) | (rw [tickV_ok a b c d e n q1 q2]; unfold late; rw [if_neg (show ¬ n - took b c n = 0 from by simpa using hb3)]), hs.keep⟩)
      · skip
        refine cd_region ?_
        refine at_pure (pv_field0 fa_54_3 rfl (r := 3) rfl) rfl ?_
        refine at_pure (by exact pv_load ld_3 rfl (box_cell .z (.s (.s (.s .z))))) rfl ?_
        refine at_pure (by first | exact pv_add_n rfl rfl (by unfold In64; omega) | exact pv_add rfl rfl) rfl ?_
        refine at_pure (pv_min rfl rfl) rfl ?_
        refine at_pure (pv_field0 fa_54_3 rfl (r := 3) rfl) rfl ?_
        refine at_turns (by exact turns_store sz_3 rfl rfl (.one rfl) rfl rfl .z (.skip (.skip (.skip (.rep .done)))) .z) ?_
        refine at_nil ?_
        refine ex_go ?_
        refine cd_seq ?_
        refine cd_region ?_
        refine at_pure (by exact pv_loads_box ag_54 rfl .z (.take (.take (.take (.take (.take .done)))))) rfl ?_
        refine at_pure (pv_move rfl) rfl ?_
        refine at_turns (by exact turns_store sz_54 rfl rfl .agg rfl rfl (.s .z) (.rep (.rep (.rep (.rep (.rep .done))))) (.s .z)) ?_
        refine at_pure (pv_assign rfl) rfl ?_
        refine at_pure (pv_assign rfl) rfl ?_
        refine at_nil ?_
        refine ex_go ?_
        refine cd_ret ?_
        exact end_ctt rfl (by exact Lies.box ag_54 rfl (.s .z) rfl) rfl rfl (fun w hs => ⟨by clear hs; first | exact congrArg Ending.returned (tickV_no a b c d e n (by simpa using hb1)).symm | exact congrArg Ending.returned (tickV_neg a b c d e n (by simpa using hb1) (by simpa using hb2)).symm | (rw [tickV_ok a b c d e n q1 q2]; unfold late; rw [if_pos (show n - took b c n = 0 from by simpa using hb3)]) | (rw [tickV_ok a b c d e n q1 q2]; unfold late; rw [if_neg (show ¬ n - took b c n = 0 from by simpa using hb3)]), hs.keep⟩)

theorem tick_ref (a b c d : Int) (e : Bool) (n : Int) (w : World) (hn : n ≤ 9223372036854775807) : Calls Try.prog 39 [.agg #[.int .i64 a, .int .i64 b, .int .i64 c, .int .i64 d, .bool e], .int .i64 n].toArray w (Val (tickV a b c d e n) w) := by
  refine calls_body (n := 41) Try.func39 rfl rfl rfl (St.init _ []) ?_
  refine cd_seq ?_
  refine cd_region ?_
  refine at_does (does_box rfl .agg (fun _ => .nil)) rfl (fun g1 => ?_)
  refine at_does (does_alloc ze_54 .agg (fun _ => (.cons .nil))) rfl (fun g2 => ?_)
  refine at_pure (pv_assign rfl) rfl ?_
  refine at_pure (pv_assign rfl) rfl ?_
  refine at_nil ?_
  refine ex_go ?_
  refine cd_seq ?_
  refine cd_seq ?_
  refine cd_region ?_
  refine at_pure (by exact pv_loads_box ag_54 rfl .z (.take (.take (.take (.take (.take .done)))))) rfl ?_
  refine at_does (does_val cal31 rfl rfl rfl (fun w hs => valid_ref _ _ _ _ _ w)) rfl (fun _ => ?_)
  refine at_pure (pv_not rfl) rfl ?_
  refine at_nil ?_
  refine ex_go ?_
  refine cd_if rfl (fun hb1 => ?_) (fun hb1 => ?_)
  · skip
    refine cd_seq ?_
    refine cd_region ?_
    refine at_pure (pv_build rfl (bu_54_)) rfl ?_
    refine at_turns (by exact turns_store sz_54 rfl rfl .agg rfl rfl (.s .z) (.rep (.rep (.rep (.rep (.rep .done))))) (.s .z)) ?_
    refine at_pure (pv_assign rfl) rfl ?_
    refine at_pure (pv_assign rfl) rfl ?_
    refine at_nil ?_
    refine ex_go ?_
    refine cd_ret ?_
    refine ex_then_ret ?_
    exact end_ctt rfl (by exact Lies.box ag_54 rfl (.s .z) rfl) rfl rfl (fun w hs => ⟨by clear hs; first | exact congrArg Ending.returned (tickV_no a b c d e n (by simpa using hb1)).symm | exact congrArg Ending.returned (tickV_neg a b c d e n (by simpa using hb1) (by simpa using hb2)).symm | (rw [tickV_ok a b c d e n q1 q2]; unfold late; rw [if_pos (show n - took b c n = 0 from by simpa using hb3)]) | (rw [tickV_ok a b c d e n q1 q2]; unfold late; rw [if_neg (show ¬ n - took b c n = 0 from by simpa using hb3)]), hs.keep⟩)
  · skip
    refine cd_skip ?_
    refine ex_go ?_
    refine cd_seq ?_
    refine cd_seq ?_
    refine cd_region ?_
    refine at_pure (pv_move rfl) rfl ?_
    refine at_pure (pv_lss rfl rfl) rfl ?_
    refine at_nil ?_
    refine ex_go ?_
    refine cd_if rfl (fun hb2 => ?_) (fun hb2 => ?_)
    · skip
      refine cd_seq ?_
      refine cd_region ?_
      refine at_pure (pv_build rfl (bu_54_)) rfl ?_
      refine at_turns (by exact turns_store sz_54 rfl rfl .agg rfl rfl (.s .z) (.rep (.rep (.rep (.rep (.rep .done))))) (.s .z)) ?_
      refine at_pure (pv_assign rfl) rfl ?_
      refine at_pure (pv_assign rfl) rfl ?_
      refine at_nil ?_
      refine ex_go ?_
      refine cd_ret ?_
      refine ex_then_ret ?_
      exact end_ctt rfl (by exact Lies.box ag_54 rfl (.s .z) rfl) rfl rfl (fun w hs => ⟨by clear hs; first | exact congrArg Ending.returned (tickV_no a b c d e n (by simpa using hb1)).symm | exact congrArg Ending.returned (tickV_neg a b c d e n (by simpa using hb1) (by simpa using hb2)).symm | (rw [tickV_ok a b c d e n q1 q2]; unfold late; rw [if_pos (show n - took b c n = 0 from by simpa using hb3)]) | (rw [tickV_ok a b c d e n q1 q2]; unfold late; rw [if_neg (show ¬ n - took b c n = 0 from by simpa using hb3)]), hs.keep⟩)
    · skip
      refine cd_skip ?_
      refine ex_go ?_
      refine cd_seq ?_
      have q1 : validC a b c d = true := by simpa using hb1
      have q1' := (validC_iff a b c d).1 q1
      have q2 : 0 ≤ n := by simpa using hb2
      refine cd_region ?_
      refine at_pure (pv_move rfl) rfl ?_
      refine at_pure (pv_field0 fa_54_1 rfl (r := 1) rfl) rfl ?_
      refine at_pure (by exact pv_load ld_2 rfl (box_cell .z (.s .z))) rfl ?_
      refine at_pure (pv_field0 fa_54_2 rfl (r := 2) rfl) rfl ?_
      refine at_pure (by exact pv_load ld_2 rfl (box_cell .z (.s (.s .z)))) rfl ?_
      refine at_pure (by first | exact pv_sub_n rfl rfl (by unfold In64; omega) | exact pv_sub rfl rfl) rfl ?_
      refine at_pure (pv_min rfl rfl) rfl ?_
      refine at_pure (pv_assign rfl) rfl ?_
      refine at_nil ?_
      refine ex_go ?_
      refine cd_seq ?_
      have q3 : 0 ≤ took b c n ∧ took b c n ≤ n ∧ took b c n ≤ b - c := by unfold took; omega
      change Cd _ _ _ _ ((7, .int .i64 (took b c n)) :: _) _ _ _
      refine cd_region ?_
      refine at_pure (pv_field0 fa_54_2 rfl (r := 2) rfl) rfl ?_
      refine at_pure (by exact pv_load ld_2 rfl (box_cell .z (.s (.s .z)))) rfl ?_
      refine at_pure (pv_move rfl) rfl ?_
      refine at_pure (by first | exact pv_add_n rfl rfl (by unfold In64; omega) | exact pv_add rfl rfl) rfl ?_
      refine at_pure (pv_field0 fa_54_2 rfl (r := 2) rfl) rfl ?_
      refine at_turns (by exact turns_store sz_2 rfl rfl (.one rfl) rfl rfl .z (.skip (.skip (.rep .done))) .z) ?_
      refine at_nil ?_
      refine ex_go ?_
      refine cd_seq ?_
      refine cd_region ?_
      refine at_pure (pv_move rfl) rfl ?_
      refine at_pure (pv_move rfl) rfl ?_
      refine at_pure (by first | exact pv_sub_n rfl rfl (by unfold In64; omega) | exact pv_sub rfl rfl) rfl ?_
      refine at_pure (pv_assign rfl) rfl ?_
      refine at_nil ?_
      refine ex_go ?_
      refine cd_seq ?_
      refine cd_seq ?_
      refine cd_region ?_
      refine at_pure (pv_move rfl) rfl ?_
      refine at_pure (pv_eql rfl rfl) rfl ?_
      refine at_nil ?_
      refine ex_go ?_
      refine cd_if rfl (fun hb3 => ?_) (fun hb3 => ?_)
      · skip
        refine cd_region ?_
        refine at_pure (pv_field0 fa_54_3 rfl (r := 3) rfl) rfl ?_
        refine at_turns (by exact turns_store sz_3 rfl rfl (.one rfl) rfl rfl .z (.skip (.skip (.skip (.rep .done)))) .z) ?_
        refine at_nil ?_
        refine ex_go ?_
        refine cd_seq ?_
        refine cd_region ?_
        refine at_pure (by exact pv_loads_box ag_54 rfl .z (.take (.take (.take (.take (.take .done)))))) rfl ?_
        refine at_pure (pv_move rfl) rfl ?_
        refine at_turns (by exact turns_store sz_54 rfl rfl .agg rfl rfl (.s .z) (.rep (.rep (.rep (.rep (.rep .done))))) (.s .z)) ?_
        refine at_pure (pv_assign rfl) rfl ?_
        refine at_pure (pv_assign rfl) rfl ?_
        refine at_nil ?_
        refine ex_go ?_
        refine cd_ret ?_
        exact end_ctt rfl (by exact Lies.box ag_54 rfl (.s .z) rfl) rfl rfl (fun w hs => ⟨by clear hs; first | exact congrArg Ending.returned (tickV_no a b c d e n (by simpa using hb1)).symm | exact congrArg Ending.returned (tickV_neg a b c d e n (by simpa using hb1) (by simpa using hb2)).symm | (rw [tickV_ok a b c d e n q1 q2]; unfold late; rw [if_pos (show n - took b c n = 0 from by simpa using hb3)]) | (rw [tickV_ok a b c d e n q1 q2]; unfold late; rw [if_neg (show ¬ n - took b c n = 0 from by simpa using hb3)]), hs.keep⟩)
      · skip
        refine cd_region ?_
        refine at_pure (pv_field0 fa_54_3 rfl (r := 3) rfl) rfl ?_
        refine at_pure (by exact pv_load ld_3 rfl (box_cell .z (.s (.s (.s .z))))) rfl ?_
        refine at_pure (by first | exact pv_add_n rfl rfl (by unfold In64; omega) | exact pv_add rfl rfl) rfl ?_
        refine at_pure (pv_min rfl rfl) rfl ?_
        refine at_pure (pv_field0 fa_54_3 rfl (r := 3) rfl) rfl ?_
        refine at_turns (by exact turns_store sz_3 rfl rfl (.one rfl) rfl rfl .z (.skip (.skip (.skip (.rep .done)))) .z) ?_
        refine at_nil ?_
        refine ex_go ?_
        refine cd_seq ?_
        refine cd_region ?_
        refine at_pure (by exact pv_loads_box ag_54 rfl .z (.take (.take (.take (.take (.take .done)))))) rfl ?_
        refine at_pure (pv_move rfl) rfl ?_
        refine at_turns (by exact turns_store sz_54 rfl rfl .agg rfl rfl (.s .z) (.rep (.rep (.rep (.rep (.rep .done))))) (.s .z)) ?_
        refine at_pure (pv_assign rfl) rfl ?_
        refine at_pure (pv_assign rfl) rfl ?_
        refine at_nil ?_
        refine ex_go ?_
        refine cd_ret ?_
        exact end_ctt rfl (by exact Lies.box ag_54 rfl (.s .z) rfl) rfl rfl (fun w hs => ⟨by clear hs; first | exact congrArg Ending.returned (tickV_no a b c d e n (by simpa using hb1)).symm | exact congrArg Ending.returned (tickV_neg a b c d e n (by simpa using hb1) (by simpa using hb2)).symm | (rw [tickV_ok a b c d e n q1 q2]; unfold late; rw [if_pos (show n - took b c n = 0 from by simpa using hb3)]) | (rw [tickV_ok a b c d e n q1 q2]; unfold late; rw [if_neg (show ¬ n - took b c n = 0 from by simpa using hb3)]), hs.keep⟩)

theorem newV_no (g : Int) (h : g < 0 ∨ 4096 < g) : newV g = .tuple #[.agg #[.int .i64 0, .int .i64 0, .int .i64 0, .int .i64 0, .bool false], .int .i64 2] := by
  have e : newOk g = false := by
    unfold newOk
    rcases h with h | h
    · rw [decide_eq_false (show ¬ 0 ≤ g by omega)]; rfl
    · rw [decide_eq_false (show ¬ g ≤ 4096 by omega), Bool.and_false]
  unfold newV; rw [e]; rfl
theorem newV_ok (g : Int) (h : 0 ≤ g ∧ g ≤ 4096) : newV g = .tuple #[.agg #[.int .i64 g, .int .i64 0, .int .i64 0, .int .i64 0, .bool false], .int .i64 0] := by
  have e : newOk g = true := by unfold newOk; rw [decide_eq_true h.1, decide_eq_true h.2]; rfl
  unfold newV; rw [e]; rfl

theorem new_c (g : Int) (w : World) : Calls Try.prog 40 [.int .i64 g].toArray w (Val (newV g) w) := by
  refine calls_body (n := 13) Try.func40 rfl rfl rfl (St.init _ []) ?_
  refine cd_seq ?_
  refine cd_region ?_
  refine at_does (does_alloc ze_54 .agg (fun _ => .nil)) rfl (fun g1 => ?_)
  refine at_pure (pv_assign rfl) rfl ?_
  refine at_nil ?_
  refine ex_go ?_
  refine cd_seq ?_
  refine cd_seq ?_
  refine cd_region ?_
  refine at_pure (pv_move rfl) rfl ?_
  refine at_pure (pv_lss rfl rfl) rfl ?_
  refine at_pure (pv_move rfl) rfl ?_
  refine at_split 6 rfl (fun hb1 => ?_) (fun hb1 => ?_)
  · skip
    refine at_skip rfl rfl hb1 rfl ?_
    refine at_skip rfl rfl hb1 rfl ?_
    refine at_pure (pv_pick_t rfl hb1 rfl) rfl ?_
    refine at_nil ?_
    refine ex_go ?_
    refine cd_then rfl rfl ?_
    refine cd_seq ?_
    refine cd_region ?_
    refine at_pure (pv_build rfl (bu_54_)) rfl ?_
    refine at_turns (by exact turns_store sz_54 rfl rfl .agg rfl rfl .z (.rep (.rep (.rep (.rep (.rep .done))))) .z) ?_
    refine at_pure (pv_assign rfl) rfl ?_
    refine at_nil ?_
    refine ex_go ?_
    refine cd_ret ?_
    refine ex_then_ret ?_
    exact end_ct rfl (by exact Lies.box ag_54 rfl .z rfl) rfl (fun w hs => ⟨by clear hs; first | exact congrArg Ending.returned (newV_no g (.inl (by simpa using hb1))).symm | exact congrArg Ending.returned (newV_no g (.inr (by simpa using hb2))).symm | exact congrArg Ending.returned (newV_ok g ⟨by simpa using hb1, by simpa using hb2⟩).symm, hs.keep⟩)
  · skip
    refine at_pure_g rfl rfl hb1 (pv_move rfl) rfl ?_
    refine at_pure_g rfl rfl hb1 (pv_gtr rfl rfl) rfl ?_
    refine at_pure (pv_pick_f rfl hb1 rfl) rfl ?_
    refine at_nil ?_
    refine ex_go ?_
    refine cd_if rfl (fun hb2 => ?_) (fun hb2 => ?_)
    · skip
      refine cd_seq ?_
      refine cd_region ?_
      refine at_pure (pv_build rfl (bu_54_)) rfl ?_
      refine at_turns (by exact turns_store sz_54 rfl rfl .agg rfl rfl .z (.rep (.rep (.rep (.rep (.rep .done))))) .z) ?_
      refine at_pure (pv_assign rfl) rfl ?_
      refine at_nil ?_
      refine ex_go ?_
      refine cd_ret ?_
      refine ex_then_ret ?_
      exact end_ct rfl (by exact Lies.box ag_54 rfl .z rfl) rfl (fun w hs => ⟨by clear hs; first | exact congrArg Ending.returned (newV_no g (.inl (by simpa using hb1))).symm | exact congrArg Ending.returned (newV_no g (.inr (by simpa using hb2))).symm | exact congrArg Ending.returned (newV_ok g ⟨by simpa using hb1, by simpa using hb2⟩).symm, hs.keep⟩)
    · skip
      refine cd_skip ?_
      refine ex_go ?_
      refine cd_seq ?_
      refine cd_region ?_
      refine at_pure (pv_move rfl) rfl ?_
      refine at_pure (pv_build rfl (bu_54_0 _)) rfl ?_
      refine at_turns (by exact turns_store sz_54 rfl rfl .agg rfl rfl .z (.rep (.rep (.rep (.rep (.rep .done))))) .z) ?_
      refine at_pure (pv_assign rfl) rfl ?_
      refine at_nil ?_
      refine ex_go ?_
      refine cd_ret ?_
      exact end_ct rfl (by exact Lies.box ag_54 rfl .z rfl) rfl (fun w hs => ⟨by clear hs; first | exact congrArg Ending.returned (newV_no g (.inl (by simpa using hb1))).symm | exact congrArg Ending.returned (newV_no g (.inr (by simpa using hb2))).symm | exact congrArg Ending.returned (newV_ok g ⟨by simpa using hb1, by simpa using hb2⟩).symm, hs.keep⟩)

theorem new_ref (g : Int) (w : World) : Calls Try.prog 41 [.int .i64 g].toArray w (Val (newV g) w) := by
  refine calls_body (n := 13) Try.func41 rfl rfl rfl (St.init _ []) ?_
  refine cd_seq ?_
  refine cd_region ?_
  refine at_does (does_alloc ze_54 .agg (fun _ => .nil)) rfl (fun g1 => ?_)
  refine at_pure (pv_assign rfl) rfl ?_
  refine at_nil ?_
  refine ex_go ?_
  refine cd_seq ?_
  refine cd_seq ?_
  refine cd_region ?_
  refine at_pure (pv_move rfl) rfl ?_
  refine at_pure (pv_lss rfl rfl) rfl ?_
  refine at_pure (pv_move rfl) rfl ?_
  refine at_split 6 rfl (fun hb1 => ?_) (fun hb1 => ?_)
  · skip
    refine at_skip rfl rfl hb1 rfl ?_
    refine at_skip rfl rfl hb1 rfl ?_
    refine at_pure (pv_pick_t rfl hb1 rfl) rfl ?_
    refine at_nil ?_
    refine ex_go ?_
    refine cd_then rfl rfl ?_
    refine cd_seq ?_
    refine cd_region ?_
    refine at_pure (pv_build rfl (bu_54_)) rfl ?_
    refine at_turns (by exact turns_store sz_54 rfl rfl .agg rfl rfl .z (.rep (.rep (.rep (.rep (.rep .done))))) .z) ?_
    refine at_pure (pv_assign rfl) rfl ?_
    refine at_nil ?_
    refine ex_go ?_
    refine cd_ret ?_
    refine ex_then_ret ?_
    exact end_ct rfl (by exact Lies.box ag_54 rfl .z rfl) rfl (fun w hs => ⟨by clear hs; first | exact congrArg Ending.returned (newV_no g (.inl (by simpa using hb1))).symm | exact congrArg Ending.returned (newV_no g (.inr (by simpa using hb2))).symm | exact congrArg Ending.returned (newV_ok g ⟨by simpa using hb1, by simpa using hb2⟩).symm, hs.keep⟩)
  · skip
    refine at_pure_g rfl rfl hb1 (pv_move rfl) rfl ?_
    refine at_pure_g rfl rfl hb1 (pv_gtr rfl rfl) rfl ?_
    refine at_pure (pv_pick_f rfl hb1 rfl) rfl ?_
    refine at_nil ?_
    refine ex_go ?_
    refine cd_if rfl (fun hb2 => ?_) (fun hb2 => ?_)
    · skip
      refine cd_seq ?_
      refine cd_region ?_
      refine at_pure (pv_build rfl (bu_54_)) rfl ?_
      refine at_turns (by exact turns_store sz_54 rfl rfl .agg rfl rfl .z (.rep (.rep (.rep (.rep (.rep .done))))) .z) ?_
      refine at_pure (pv_assign rfl) rfl ?_
      refine at_nil ?_
      refine ex_go ?_
      refine cd_ret ?_
      refine ex_then_ret ?_
      exact end_ct rfl (by exact Lies.box ag_54 rfl .z rfl) rfl (fun w hs => ⟨by clear hs; first | exact congrArg Ending.returned (newV_no g (.inl (by simpa using hb1))).symm | exact congrArg Ending.returned (newV_no g (.inr (by simpa using hb2))).symm | exact congrArg Ending.returned (newV_ok g ⟨by simpa using hb1, by simpa using hb2⟩).symm, hs.keep⟩)
    · skip
      refine cd_skip ?_
      refine ex_go ?_
      refine cd_seq ?_
      refine cd_region ?_
      refine at_pure (pv_move rfl) rfl ?_
      refine at_pure (pv_build rfl (bu_54_0 _)) rfl ?_
      refine at_turns (by exact turns_store sz_54 rfl rfl .agg rfl rfl .z (.rep (.rep (.rep (.rep (.rep .done))))) .z) ?_
      refine at_pure (pv_assign rfl) rfl ?_
      refine at_nil ?_
      refine ex_go ?_
      refine cd_ret ?_
      exact end_ct rfl (by exact Lies.box ag_54 rfl .z rfl) rfl (fun w hs => ⟨by clear hs; first | exact congrArg Ending.returned (newV_no g (.inl (by simpa using hb1))).symm | exact congrArg Ending.returned (newV_no g (.inr (by simpa using hb2))).symm | exact congrArg Ending.returned (newV_ok g ⟨by simpa using hb1, by simpa using hb2⟩).symm, hs.keep⟩)

theorem whole_any (x y : Int) (w : World) (hx : x ≤ 9223372036854775807) : Calls Try.prog 46 [.int .i64 x, .int .i64 y].toArray w (Val (.int .i64 (wholeI x y)) w) := by
  refine calls_body (n := 14) Try.func46 rfl rfl rfl (St.init _ []) ?_
  refine cd_seq ?_
  refine cd_region ?_
  refine at_pure (pv_assign rfl) rfl ?_
  refine at_nil ?_
  refine ex_go ?_
  refine cd_seq ?_
  refine cd_seq ?_
  refine cd_region ?_
  refine at_pure (pv_move rfl) rfl ?_
  refine at_pure (pv_lss rfl rfl) rfl ?_
  refine at_pure (pv_move rfl) rfl ?_
  refine at_split 7 rfl (fun hb1 => ?_) (fun hb1 => ?_)
  · skip
    refine at_skip rfl rfl hb1 rfl ?_
    refine at_skip rfl rfl hb1 rfl ?_
    refine at_pure (pv_pick_t rfl hb1 rfl) rfl ?_
    refine at_nil ?_
    refine ex_go ?_
    refine cd_then rfl rfl ?_
    refine cd_seq ?_
    refine cd_region ?_
    refine at_pure (pv_assign rfl) rfl ?_
    refine at_nil ?_
    refine ex_go ?_
    refine cd_ret ?_
    refine ex_then_ret ?_
    exact end_ret1 rfl rfl (fun w hs => ⟨by clear hs; refine congrArg (fun b => Ending.returned (.int .i64 b)) ?_; unfold wholeI; first | (rw [if_neg (by omega)]; done) | (rw [if_pos (by simp at hb1; omega)]; done) | (rw [if_pos (by simp at hb1 hb2; omega)]; done), hs.keep⟩)
  · skip
    refine at_pure_g rfl rfl hb1 (pv_move rfl) rfl ?_
    refine at_pure_g rfl rfl hb1 (pv_lss rfl rfl) rfl ?_
    refine at_pure (pv_pick_f rfl hb1 rfl) rfl ?_
    refine at_nil ?_
    refine ex_go ?_
    refine cd_if rfl (fun hb2 => ?_) (fun hb2 => ?_)
    · skip
      refine cd_seq ?_
      refine cd_region ?_
      refine at_pure (pv_assign rfl) rfl ?_
      refine at_nil ?_
      refine ex_go ?_
      refine cd_ret ?_
      refine ex_then_ret ?_
      exact end_ret1 rfl rfl (fun w hs => ⟨by clear hs; refine congrArg (fun b => Ending.returned (.int .i64 b)) ?_; unfold wholeI; first | (rw [if_neg (by omega)]; done) | (rw [if_pos (by simp at hb1; omega)]; done) | (rw [if_pos (by simp at hb1 hb2; omega)]; done), hs.keep⟩)
    · skip
      refine cd_skip ?_
      refine ex_go ?_
      refine cd_seq ?_
      have q1 : 0 ≤ x ∧ 1 ≤ y := by simp at hb1 hb2; omega
      refine cd_region ?_
      refine at_pure (pv_move rfl) rfl ?_
      refine at_pure (pv_move rfl) rfl ?_
      refine at_pure (by first | exact pv_quo_n rfl rfl (by omega) | exact pv_quo rfl rfl (by first | decide | omega)) rfl ?_
      refine at_pure (pv_assign rfl) rfl ?_
      refine at_nil ?_
      refine ex_go ?_
      refine cd_ret ?_
      exact end_ret1 rfl rfl (fun w hs => ⟨by clear hs; refine congrArg (fun b => Ending.returned (.int .i64 b)) ?_; unfold wholeI; first | (rw [if_neg (by omega)]; done) | (rw [if_pos (by simp at hb1; omega)]; done) | (rw [if_pos (by simp at hb1 hb2; omega)]; done), hs.keep⟩)

theorem whole_ref (x y : Int) (w : World) (hx : x ≤ 9223372036854775807) : Calls Try.prog 47 [.int .i64 x, .int .i64 y].toArray w (Val (.int .i64 (wholeI x y)) w) := by
  refine calls_body (n := 14) Try.func47 rfl rfl rfl (St.init _ []) ?_
  refine cd_seq ?_
  refine cd_region ?_
  refine at_pure (pv_assign rfl) rfl ?_
  refine at_nil ?_
  refine ex_go ?_
  refine cd_seq ?_
  refine cd_seq ?_
  refine cd_region ?_
  refine at_pure (pv_move rfl) rfl ?_
  refine at_pure (pv_lss rfl rfl) rfl ?_
  refine at_pure (pv_move rfl) rfl ?_
  refine at_split 7 rfl (fun hb1 => ?_) (fun hb1 => ?_)
  · skip
    refine at_skip rfl rfl hb1 rfl ?_
    refine at_skip rfl rfl hb1 rfl ?_
    refine at_pure (pv_pick_t rfl hb1 rfl) rfl ?_
    refine at_nil ?_
    refine ex_go ?_
    refine cd_then rfl rfl ?_
    refine cd_seq ?_
    refine cd_region ?_
    refine at_pure (pv_assign rfl) rfl ?_
    refine at_nil ?_
    refine ex_go ?_
    refine cd_ret ?_
    refine ex_then_ret ?_
    exact end_ret1 rfl rfl (fun w hs => ⟨by clear hs; refine congrArg (fun b => Ending.returned (.int .i64 b)) ?_; unfold wholeI; first | (rw [if_neg (by omega)]; done) | (rw [if_pos (by simp at hb1; omega)]; done) | (rw [if_pos (by simp at hb1 hb2; omega)]; done), hs.keep⟩)
  · skip
    refine at_pure_g rfl rfl hb1 (pv_move rfl) rfl ?_
    refine at_pure_g rfl rfl hb1 (pv_lss rfl rfl) rfl ?_
    refine at_pure (pv_pick_f rfl hb1 rfl) rfl ?_
    refine at_nil ?_
    refine ex_go ?_
    refine cd_if rfl (fun hb2 => ?_) (fun hb2 => ?_)
    · skip
      refine cd_seq ?_
      refine cd_region ?_
      refine at_pure (pv_assign rfl) rfl ?_
      refine at_nil ?_
      refine ex_go ?_
      refine cd_ret ?_
      refine ex_then_ret ?_
      exact end_ret1 rfl rfl (fun w hs => ⟨by clear hs; refine congrArg (fun b => Ending.returned (.int .i64 b)) ?_; unfold wholeI; first | (rw [if_neg (by omega)]; done) | (rw [if_pos (by simp at hb1; omega)]; done) | (rw [if_pos (by simp at hb1 hb2; omega)]; done), hs.keep⟩)
    · skip
      refine cd_skip ?_
      refine ex_go ?_
      refine cd_seq ?_
      have q1 : 0 ≤ x ∧ 1 ≤ y := by simp at hb1 hb2; omega
      refine cd_region ?_
      refine at_pure (pv_move rfl) rfl ?_
      refine at_pure (pv_move rfl) rfl ?_
      refine at_pure (by first | exact pv_quo_n rfl rfl (by omega) | exact pv_quo rfl rfl (by first | decide | omega)) rfl ?_
      refine at_pure (pv_assign rfl) rfl ?_
      refine at_nil ?_
      refine ex_go ?_
      refine cd_ret ?_
      exact end_ret1 rfl rfl (fun w hs => ⟨by clear hs; refine congrArg (fun b => Ending.returned (.int .i64 b)) ?_; unfold wholeI; first | (rw [if_neg (by omega)]; done) | (rw [if_pos (by simp at hb1; omega)]; done) | (rw [if_pos (by simp at hb1 hb2; omega)]; done), hs.keep⟩)

end Go.Proofs.Ytaflnbnikabeaaa.Client
