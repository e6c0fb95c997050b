/- Latency: its parts; the longest path by the reference. -/
import Derived.Test.YtkejdfnpbkdllaaLatF
import Derived.Test.YtkejdfnpbkdllaaGP3
set_option linter.unusedVariables false
set_option linter.unusedSimpArgs false
set_option maxRecDepth 20000
namespace Go.Proofs.Ytkejdfnpbkdllaa
open Go Go.RowKit Go.Proofs.YtkejdfnpbkdllaaV
def manyB (n : Int) : Bool := decide (0 ≤ n) && decide (n ≤ 1099511627776)
def rateB (n : Int) : Bool := decide (1000 ≤ n) && decide (n ≤ 768000)
def frames (n f t : Int) : Int := if manyB n && rateB f && rateB t then (n * t + f - 1) / f else 0
theorem many_of (n : Int) (h1 : decide (n < 0) = false) (h2 : decide (1099511627776 < n) = false) : 0 ≤ n ∧ n ≤ 1099511627776 := by
  simp at h1 h2; omega
theorem many_of' (n : Int) (h : manyB n = true) : 0 ≤ n ∧ n ≤ 1099511627776 := by simpa [manyB] using h
theorem rate_of (f : Int) (h : rateB f = true) : 1000 ≤ f ∧ f ≤ 768000 := by simpa [rateB] using h
theorem prod_of (n t : Int) (h1 : 0 ≤ n ∧ n ≤ 1099511627776) (h2 : 1000 ≤ t ∧ t ≤ 768000) : 0 ≤ n * t ∧ n * t ≤ 844424930131968000 := by
  refine ⟨Int.mul_nonneg h1.1 (by omega), ?_⟩
  have := Int.mul_le_mul h1.2 h2.2 (by omega) (by omega)
  omega
theorem frames_no (n f t : Int) (h : manyB n = false ∨ rateB f = false ∨ rateB t = false) : frames n f t = 0 := by
  unfold frames; rcases h with h | h | h <;> simp [h]
theorem frames_yes (n f t : Int) (h1 : 0 ≤ n ∧ n ≤ 1099511627776) (h2 : 1000 ≤ f ∧ f ≤ 768000) (h3 : 1000 ≤ t ∧ t ≤ 768000) : frames n f t = (n * t + f - 1) / f := by
  unfold frames manyB rateB; simp [h1, h2, h3]
def ofOk (a b c d e f g : Int) : Bool := rateB a && rateB b && rateB c && decide (16 ≤ e) && decide (e ≤ 8192) && manyB d && manyB f && manyB g
def sel (b : Bool) (x y : Int) : Int := bif b then x else y
def totalI (a b c d e : Int) : Int := sel (manyB a && manyB b && manyB c && manyB d && manyB e) (a + b + c + d + e) 0
theorem nb (x : Int) (h : (!manyB x) = false) : manyB x = true := by simpa using h

theorem few_any (n : Int) (w : World) : Calls Try.prog 60 [.int .i64 n].toArray w (Val (.bool (manyB n)) w) := by
  refine calls_body (n := 9) Try.func60 rfl rfl rfl (St.init _ []) ?_
  refine cd_seq ?_
  refine cd_region ?_
  refine at_pure (pv_assign rfl) rfl ?_
  refine at_nil ?_
  refine ex_go ?_
  refine cd_seq ?_
  refine cd_region ?_
  refine at_pure (pv_move rfl) rfl ?_
  refine at_pure (pv_geq rfl rfl) rfl ?_
  refine at_pure (pv_move rfl) rfl ?_
  refine at_split 5 rfl (fun hb1 => ?_) (fun hb1 => ?_)
  · skip
    refine at_pure_g rfl rfl hb1 (pv_move rfl) rfl ?_
    refine at_pure_g rfl rfl hb1 (pv_leq rfl rfl) rfl ?_
    refine at_pure (pv_pick_t rfl hb1 rfl) rfl ?_
    refine at_pure (pv_assign rfl) rfl ?_
    refine at_nil ?_
    refine ex_go ?_
    refine cd_ret ?_
    exact end_ret1 rfl rfl (fun w hs => ⟨by simp [manyB, *], hs.keep⟩)
  · skip
    refine at_skip rfl rfl hb1 rfl ?_
    refine at_skip rfl rfl hb1 rfl ?_
    refine at_pure (pv_pick_f rfl hb1 rfl) rfl ?_
    refine at_pure (pv_assign rfl) rfl ?_
    refine at_nil ?_
    refine ex_go ?_
    refine cd_ret ?_
    exact end_ret1 rfl rfl (fun w hs => ⟨by simp [manyB, *], hs.keep⟩)

theorem rate_any (n : Int) (w : World) : Calls Try.prog 61 [.int .i64 n].toArray w (Val (.bool (rateB n)) w) := by
  refine calls_body (n := 9) Try.func61 rfl rfl rfl (St.init _ []) ?_
  refine cd_seq ?_
  refine cd_region ?_
  refine at_pure (pv_assign rfl) rfl ?_
  refine at_nil ?_
  refine ex_go ?_
  refine cd_seq ?_
  refine cd_region ?_
  refine at_pure (pv_move rfl) rfl ?_
  refine at_pure (pv_geq rfl rfl) rfl ?_
  refine at_pure (pv_move rfl) rfl ?_
  refine at_split 5 rfl (fun hb1 => ?_) (fun hb1 => ?_)
  · skip
    refine at_pure_g rfl rfl hb1 (pv_move rfl) rfl ?_
    refine at_pure_g rfl rfl hb1 (pv_leq rfl rfl) rfl ?_
    refine at_pure (pv_pick_t rfl hb1 rfl) rfl ?_
    refine at_pure (pv_assign rfl) rfl ?_
    refine at_nil ?_
    refine ex_go ?_
    refine cd_ret ?_
    exact end_ret1 rfl rfl (fun w hs => ⟨by simp [rateB, *], hs.keep⟩)
  · skip
    refine at_skip rfl rfl hb1 rfl ?_
    refine at_skip rfl rfl hb1 rfl ?_
    refine at_pure (pv_pick_f rfl hb1 rfl) rfl ?_
    refine at_pure (pv_assign rfl) rfl ?_
    refine at_nil ?_
    refine ex_go ?_
    refine cd_ret ?_
    exact end_ret1 rfl rfl (fun w hs => ⟨by simp [rateB, *], hs.keep⟩)

theorem frames_any (n f t : Int) (w : World) : Calls Try.prog 52 [.int .i64 n, .int .i64 f, .int .i64 t].toArray w (Val (.int .i64 (frames n f t)) w) := by
  refine calls_body (n := 31) Try.func52 rfl rfl rfl (St.init _ []) ?_
  refine cd_seq ?_
  refine cd_region ?_
  refine at_pure (pv_assign rfl) rfl ?_
  refine at_nil ?_
  refine ex_go ?_
  refine cd_seq ?_
  refine cd_seq ?_
  refine cd_region ?_
  refine at_pure (pv_move rfl) rfl ?_
  refine at_pure (pv_lss rfl rfl) rfl ?_
  refine at_pure (pv_move rfl) rfl ?_
  refine at_split 9 rfl (fun hb1 => ?_) (fun hb1 => ?_)
  · skip
    refine at_skip rfl rfl hb1 rfl ?_
    refine at_skip rfl rfl hb1 rfl ?_
    refine at_pure (pv_pick_t rfl hb1 rfl) rfl ?_
    refine at_pure (pv_move rfl) rfl ?_
    refine at_skip rfl rfl rfl rfl ?_
    refine at_skip rfl rfl rfl rfl ?_
    refine at_skip rfl rfl rfl rfl ?_
    refine at_pure (pv_pick_t rfl rfl rfl) rfl ?_
    refine at_pure (pv_move rfl) rfl ?_
    refine at_skip rfl rfl rfl rfl ?_
    refine at_skip rfl rfl rfl rfl ?_
    refine at_skip rfl rfl rfl rfl ?_
    refine at_pure (pv_pick_t rfl rfl rfl) rfl ?_
    refine at_nil ?_
    refine ex_go ?_
    refine cd_then rfl rfl ?_
    refine cd_seq ?_
    refine cd_region ?_
    refine at_pure (pv_assign rfl) rfl ?_
    refine at_nil ?_
    refine ex_go ?_
    refine cd_ret ?_
    refine ex_then_ret ?_
    exact end_ret1 rfl rfl (fun w hs => ⟨by first | (rw [frames_yes n f t q1 q2 q3]; done) | (rw [frames_no n f t (by first | (simp_all [manyB]; done) | (left; simp_all [manyB]; omega))]; done), hs.keep⟩)
  · skip
    refine at_pure_g rfl rfl hb1 (pv_move rfl) rfl ?_
    refine at_pure_g rfl rfl hb1 (pv_gtr rfl rfl) rfl ?_
    refine at_pure (pv_pick_f rfl hb1 rfl) rfl ?_
    refine at_pure (pv_move rfl) rfl ?_
    refine at_split 13 rfl (fun hb2 => ?_) (fun hb2 => ?_)
    · skip
      refine at_skip rfl rfl hb2 rfl ?_
      refine at_skip rfl rfl hb2 rfl ?_
      refine at_skip rfl rfl hb2 rfl ?_
      refine at_pure (pv_pick_t rfl hb2 rfl) rfl ?_
      refine at_pure (pv_move rfl) rfl ?_
      refine at_skip rfl rfl rfl rfl ?_
      refine at_skip rfl rfl rfl rfl ?_
      refine at_skip rfl rfl rfl rfl ?_
      refine at_pure (pv_pick_t rfl rfl rfl) rfl ?_
      refine at_nil ?_
      refine ex_go ?_
      refine cd_then rfl rfl ?_
      refine cd_seq ?_
      refine cd_region ?_
      refine at_pure (pv_assign rfl) rfl ?_
      refine at_nil ?_
      refine ex_go ?_
      refine cd_ret ?_
      refine ex_then_ret ?_
      exact end_ret1 rfl rfl (fun w hs => ⟨by first | (rw [frames_yes n f t q1 q2 q3]; done) | (rw [frames_no n f t (by first | (simp_all [manyB]; done) | (left; simp_all [manyB]; omega))]; done), hs.keep⟩)
    · skip
      refine at_pure_g rfl rfl hb2 (pv_move rfl) rfl ?_
      refine at_does_g rfl rfl hb2 (does_val cal61 rfl rfl rfl (fun w hs => rate_any _ w)) rfl (fun _ => ?_)
      refine at_pure_g rfl rfl hb2 (pv_not rfl) rfl ?_
      refine at_pure (pv_pick_f rfl hb2 rfl) rfl ?_
      refine at_pure (pv_move rfl) rfl ?_
      refine at_split 18 rfl (fun hb3 => ?_) (fun hb3 => ?_)
      · skip
        refine at_skip rfl rfl hb3 rfl ?_
        refine at_skip rfl rfl hb3 rfl ?_
        refine at_skip rfl rfl hb3 rfl ?_
        refine at_pure (pv_pick_t rfl hb3 rfl) rfl ?_
        refine at_nil ?_
        refine ex_go ?_
        refine cd_then rfl rfl ?_
        refine cd_seq ?_
        refine cd_region ?_
        refine at_pure (pv_assign rfl) rfl ?_
        refine at_nil ?_
        refine ex_go ?_
        refine cd_ret ?_
        refine ex_then_ret ?_
        exact end_ret1 rfl rfl (fun w hs => ⟨by first | (rw [frames_yes n f t q1 q2 q3]; done) | (rw [frames_no n f t (by first | (simp_all [manyB]; done) | (left; simp_all [manyB]; omega))]; done), hs.keep⟩)
      · skip
        refine at_pure_g rfl rfl hb3 (pv_move rfl) rfl ?_
        refine at_does_g rfl rfl hb3 (does_val cal61 rfl rfl rfl (fun w hs => rate_any _ w)) rfl (fun _ => ?_)
        refine at_pure_g rfl rfl hb3 (pv_not rfl) rfl ?_
        refine at_pure (pv_pick_f rfl hb3 rfl) rfl ?_
        refine at_nil ?_
        refine ex_go ?_
        refine cd_if rfl (fun hb4 => ?_) (fun hb4 => ?_)
        · skip
          refine cd_seq ?_
          refine cd_region ?_
          refine at_pure (pv_assign rfl) rfl ?_
          refine at_nil ?_
          refine ex_go ?_
          refine cd_ret ?_
          refine ex_then_ret ?_
          exact end_ret1 rfl rfl (fun w hs => ⟨by first | (rw [frames_yes n f t q1 q2 q3]; done) | (rw [frames_no n f t (by first | (simp_all [manyB]; done) | (left; simp_all [manyB]; omega))]; done), hs.keep⟩)
        · skip
          refine cd_skip ?_
          refine ex_go ?_
          refine cd_seq ?_
          have q1 := many_of n hb1 hb2
          have q2 := rate_of f (by simpa using hb3)
          have q3 := rate_of t (by simpa using hb4)
          have q4 := prod_of n t q1 q3
          refine cd_region ?_
          refine at_pure (pv_move rfl) rfl ?_
          refine at_pure (pv_move rfl) rfl ?_
          refine at_pure (by first | exact pv_mul_n rfl rfl (by unfold In64; omega) | exact pv_mul rfl rfl) rfl ?_
          refine at_pure (pv_move rfl) rfl ?_
          refine at_pure (by first | exact pv_add_n rfl rfl (by unfold In64; omega) | exact pv_add rfl rfl) rfl ?_
          refine at_pure (by first | exact pv_sub_n rfl rfl (by unfold In64; omega) | exact pv_sub rfl rfl) rfl ?_
          refine at_pure (pv_move rfl) rfl ?_
          refine at_pure (by first | exact pv_quo_n rfl rfl (by omega) | exact pv_quo rfl rfl (by first | decide | omega)) rfl ?_
          refine at_pure (pv_assign rfl) rfl ?_
          refine at_nil ?_
          refine ex_go ?_
          refine cd_ret ?_
          exact end_ret1 rfl rfl (fun w hs => ⟨by first | (rw [frames_yes n f t q1 q2 q3]; done) | (rw [frames_no n f t (by first | (simp_all [manyB]; done) | (left; simp_all [manyB]; omega))]; done), hs.keep⟩)

theorem of_any (a b c d e f g : Int) (w : World) : Calls Try.prog 24 [.agg #[.int .i64 a, .int .i64 b, .int .i64 c, .int .i64 d, .int .i64 e, .int .i64 f, .int .i64 g]].toArray w (Val (.tuple #[.agg #[.int .i64 (sel (ofOk a b c d e f g) (frames d b a) 0), .int .i64 (sel (ofOk a b c d e f g) (frames 2 b a) 0), .int .i64 (sel (ofOk a b c d e f g) e 0), .int .i64 (sel (ofOk a b c d e f g) f 0), .int .i64 (sel (ofOk a b c d e f g) (frames g c a) 0)], .int .i64 (sel (ofOk a b c d e f g) 0 2)]) w) := by
  refine calls_body (n := 77) Try.func24 rfl rfl rfl (St.init _ []) ?_
  refine cd_seq ?_
  refine cd_region ?_
  refine at_does (does_box rfl .agg (fun _ => .nil)) rfl (fun g1 => ?_)
  refine at_does (does_alloc ze_56 .agg (fun _ => (.cons .nil))) rfl (fun g2 => ?_)
  refine at_pure (pv_assign rfl) rfl ?_
  refine at_nil ?_
  refine ex_go ?_
  refine cd_seq ?_
  refine cd_region ?_
  refine at_pure (pv_assign rfl) rfl ?_
  refine at_nil ?_
  refine ex_go ?_
  refine cd_seq ?_
  refine cd_seq ?_
  refine cd_region ?_
  refine at_pure (pv_field0 fa_54_0 rfl (r := 0) rfl) rfl ?_
  refine at_pure (by exact pv_load ld_3 rfl (box_cell .z .z)) rfl ?_
  refine at_does (does_val cal61 rfl rfl rfl (fun w hs => rate_any _ w)) rfl (fun _ => ?_)
  refine at_pure (pv_not rfl) rfl ?_
  refine at_pure (pv_move rfl) rfl ?_
  refine at_split 9 rfl (fun hb1 => ?_) (fun hb1 => ?_)
  · skip
    refine at_skip rfl rfl hb1 rfl ?_
    refine at_skip rfl rfl hb1 rfl ?_
    refine at_skip rfl rfl hb1 rfl ?_
    refine at_skip rfl rfl hb1 rfl ?_
    refine at_pure (pv_pick_t rfl hb1 rfl) rfl ?_
    refine at_pure (pv_move rfl) rfl ?_
    refine at_skip rfl rfl rfl rfl ?_
    refine at_skip rfl rfl rfl rfl ?_
    refine at_skip rfl rfl rfl rfl ?_
    refine at_skip rfl rfl rfl rfl ?_
    refine at_pure (pv_pick_t rfl rfl rfl) rfl ?_
    refine at_pure (pv_move rfl) rfl ?_
    refine at_skip rfl rfl rfl rfl ?_
    refine at_skip rfl rfl rfl rfl ?_
    refine at_skip rfl rfl rfl rfl ?_
    refine at_pure (pv_pick_t rfl rfl rfl) rfl ?_
    refine at_pure (pv_move rfl) rfl ?_
    refine at_skip rfl rfl rfl rfl ?_
    refine at_skip rfl rfl rfl rfl ?_
    refine at_skip rfl rfl rfl rfl ?_
    refine at_pure (pv_pick_t rfl rfl rfl) rfl ?_
    refine at_pure (pv_move rfl) rfl ?_
    refine at_skip rfl rfl rfl rfl ?_
    refine at_skip rfl rfl rfl rfl ?_
    refine at_skip rfl rfl rfl rfl ?_
    refine at_skip rfl rfl rfl rfl ?_
    refine at_skip rfl rfl rfl rfl ?_
    refine at_pure (pv_pick_t rfl rfl rfl) rfl ?_
    refine at_pure (pv_move rfl) rfl ?_
    refine at_skip rfl rfl rfl rfl ?_
    refine at_skip rfl rfl rfl rfl ?_
    refine at_skip rfl rfl rfl rfl ?_
    refine at_skip rfl rfl rfl rfl ?_
    refine at_skip rfl rfl rfl rfl ?_
    refine at_pure (pv_pick_t rfl rfl rfl) rfl ?_
    refine at_pure (pv_move rfl) rfl ?_
    refine at_skip rfl rfl rfl rfl ?_
    refine at_skip rfl rfl rfl rfl ?_
    refine at_skip rfl rfl rfl rfl ?_
    refine at_skip rfl rfl rfl rfl ?_
    refine at_skip rfl rfl rfl rfl ?_
    refine at_pure (pv_pick_t rfl rfl rfl) rfl ?_
    refine at_nil ?_
    refine ex_go ?_
    refine cd_then rfl rfl ?_
    refine cd_seq ?_
    refine cd_region ?_
    refine at_pure (pv_build rfl (bu_56_)) rfl ?_
    refine at_turns (by exact turns_store sz_56 rfl rfl .agg rfl rfl (.s .z) (.rep (.rep (.rep (.rep (.rep .done))))) (.s .z)) ?_
    refine at_pure (pv_assign rfl) rfl ?_
    refine at_nil ?_
    refine ex_go ?_
    refine cd_ret ?_
    refine ex_then_ret ?_
    exact end_ct rfl (by exact Lies.box ag_56 rfl (.s .z) rfl) rfl (fun w hs => ⟨by clear hs; first | (have z : ofOk a b c d e f g = false := (by first | (simp_all [ofOk]; done) | (simp_all [ofOk]; omega)); rw [z]; rfl) | (have z : ofOk a b c d e f g = true := (by first | (simp_all [ofOk]; done) | (simp_all [ofOk]; omega)); rw [z]; rfl), hs.keep⟩)
  · skip
    refine at_pure_g rfl rfl hb1 (pv_field0 fa_54_1 rfl (r := 1) rfl) rfl ?_
    refine at_pure_g rfl rfl hb1 (by exact pv_load ld_3 rfl (box_cell .z (.s .z))) rfl ?_
    refine at_does_g rfl rfl hb1 (does_val cal61 rfl rfl rfl (fun w hs => rate_any _ w)) rfl (fun _ => ?_)
    refine at_pure_g rfl rfl hb1 (pv_not rfl) rfl ?_
    refine at_pure (pv_pick_f rfl hb1 rfl) rfl ?_
    refine at_pure (pv_move rfl) rfl ?_
    refine at_split 15 rfl (fun hb2 => ?_) (fun hb2 => ?_)
    · skip
      refine at_skip rfl rfl hb2 rfl ?_
      refine at_skip rfl rfl hb2 rfl ?_
      refine at_skip rfl rfl hb2 rfl ?_
      refine at_skip rfl rfl hb2 rfl ?_
      refine at_pure (pv_pick_t rfl hb2 rfl) rfl ?_
      refine at_pure (pv_move rfl) rfl ?_
      refine at_skip rfl rfl rfl rfl ?_
      refine at_skip rfl rfl rfl rfl ?_
      refine at_skip rfl rfl rfl rfl ?_
      refine at_pure (pv_pick_t rfl rfl rfl) rfl ?_
      refine at_pure (pv_move rfl) rfl ?_
      refine at_skip rfl rfl rfl rfl ?_
      refine at_skip rfl rfl rfl rfl ?_
      refine at_skip rfl rfl rfl rfl ?_
      refine at_pure (pv_pick_t rfl rfl rfl) rfl ?_
      refine at_pure (pv_move rfl) rfl ?_
      refine at_skip rfl rfl rfl rfl ?_
      refine at_skip rfl rfl rfl rfl ?_
      refine at_skip rfl rfl rfl rfl ?_
      refine at_skip rfl rfl rfl rfl ?_
      refine at_skip rfl rfl rfl rfl ?_
      refine at_pure (pv_pick_t rfl rfl rfl) rfl ?_
      refine at_pure (pv_move rfl) rfl ?_
      refine at_skip rfl rfl rfl rfl ?_
      refine at_skip rfl rfl rfl rfl ?_
      refine at_skip rfl rfl rfl rfl ?_
      refine at_skip rfl rfl rfl rfl ?_
      refine at_skip rfl rfl rfl rfl ?_
      refine at_pure (pv_pick_t rfl rfl rfl) rfl ?_
      refine at_pure (pv_move rfl) rfl ?_
      refine at_skip rfl rfl rfl rfl ?_
      refine at_skip rfl rfl rfl rfl ?_
      refine at_skip rfl rfl rfl rfl ?_
      refine at_skip rfl rfl rfl rfl ?_
      refine at_skip rfl rfl rfl rfl ?_
      refine at_pure (pv_pick_t rfl rfl rfl) rfl ?_
      refine at_nil ?_
      refine ex_go ?_
      refine cd_then rfl rfl ?_
      refine cd_seq ?_
      refine cd_region ?_
      refine at_pure (pv_build rfl (bu_56_)) rfl ?_
      refine at_turns (by exact turns_store sz_56 rfl rfl .agg rfl rfl (.s .z) (.rep (.rep (.rep (.rep (.rep .done))))) (.s .z)) ?_
      refine at_pure (pv_assign rfl) rfl ?_
      refine at_nil ?_
      refine ex_go ?_
      refine cd_ret ?_
      refine ex_then_ret ?_
      exact end_ct rfl (by exact Lies.box ag_56 rfl (.s .z) rfl) rfl (fun w hs => ⟨by clear hs; first | (have z : ofOk a b c d e f g = false := (by first | (simp_all [ofOk]; done) | (simp_all [ofOk]; omega)); rw [z]; rfl) | (have z : ofOk a b c d e f g = true := (by first | (simp_all [ofOk]; done) | (simp_all [ofOk]; omega)); rw [z]; rfl), hs.keep⟩)
    · skip
      refine at_pure_g rfl rfl hb2 (pv_field0 fa_54_2 rfl (r := 2) rfl) rfl ?_
      refine at_pure_g rfl rfl hb2 (by exact pv_load ld_3 rfl (box_cell .z (.s (.s .z)))) rfl ?_
      refine at_does_g rfl rfl hb2 (does_val cal61 rfl rfl rfl (fun w hs => rate_any _ w)) rfl (fun _ => ?_)
      refine at_pure_g rfl rfl hb2 (pv_not rfl) rfl ?_
      refine at_pure (pv_pick_f rfl hb2 rfl) rfl ?_
      refine at_pure (pv_move rfl) rfl ?_
      refine at_split 21 rfl (fun hb3 => ?_) (fun hb3 => ?_)
      · skip
        refine at_skip rfl rfl hb3 rfl ?_
        refine at_skip rfl rfl hb3 rfl ?_
        refine at_skip rfl rfl hb3 rfl ?_
        refine at_pure (pv_pick_t rfl hb3 rfl) rfl ?_
        refine at_pure (pv_move rfl) rfl ?_
        refine at_skip rfl rfl rfl rfl ?_
        refine at_skip rfl rfl rfl rfl ?_
        refine at_skip rfl rfl rfl rfl ?_
        refine at_pure (pv_pick_t rfl rfl rfl) rfl ?_
        refine at_pure (pv_move rfl) rfl ?_
        refine at_skip rfl rfl rfl rfl ?_
        refine at_skip rfl rfl rfl rfl ?_
        refine at_skip rfl rfl rfl rfl ?_
        refine at_skip rfl rfl rfl rfl ?_
        refine at_skip rfl rfl rfl rfl ?_
        refine at_pure (pv_pick_t rfl rfl rfl) rfl ?_
        refine at_pure (pv_move rfl) rfl ?_
        refine at_skip rfl rfl rfl rfl ?_
        refine at_skip rfl rfl rfl rfl ?_
        refine at_skip rfl rfl rfl rfl ?_
        refine at_skip rfl rfl rfl rfl ?_
        refine at_skip rfl rfl rfl rfl ?_
        refine at_pure (pv_pick_t rfl rfl rfl) rfl ?_
        refine at_pure (pv_move rfl) rfl ?_
        refine at_skip rfl rfl rfl rfl ?_
        refine at_skip rfl rfl rfl rfl ?_
        refine at_skip rfl rfl rfl rfl ?_
        refine at_skip rfl rfl rfl rfl ?_
        refine at_skip rfl rfl rfl rfl ?_
        refine at_pure (pv_pick_t rfl rfl rfl) rfl ?_
        refine at_nil ?_
        refine ex_go ?_
        refine cd_then rfl rfl ?_
        refine cd_seq ?_
        refine cd_region ?_
        refine at_pure (pv_build rfl (bu_56_)) rfl ?_
        refine at_turns (by exact turns_store sz_56 rfl rfl .agg rfl rfl (.s .z) (.rep (.rep (.rep (.rep (.rep .done))))) (.s .z)) ?_
        refine at_pure (pv_assign rfl) rfl ?_
        refine at_nil ?_
        refine ex_go ?_
        refine cd_ret ?_
        refine ex_then_ret ?_
        exact end_ct rfl (by exact Lies.box ag_56 rfl (.s .z) rfl) rfl (fun w hs => ⟨by clear hs; first | (have z : ofOk a b c d e f g = false := (by first | (simp_all [ofOk]; done) | (simp_all [ofOk]; omega)); rw [z]; rfl) | (have z : ofOk a b c d e f g = true := (by first | (simp_all [ofOk]; done) | (simp_all [ofOk]; omega)); rw [z]; rfl), hs.keep⟩)
      · skip
        refine at_pure_g rfl rfl hb3 (pv_field0 fa_54_4 rfl (r := 4) rfl) rfl ?_
        refine at_pure_g rfl rfl hb3 (by exact pv_load ld_3 rfl (box_cell .z (.s (.s (.s (.s .z)))))) rfl ?_
        refine at_pure_g rfl rfl hb3 (pv_lss rfl rfl) rfl ?_
        refine at_pure (pv_pick_f rfl hb3 rfl) rfl ?_
        refine at_pure (pv_move rfl) rfl ?_
        refine at_split 26 rfl (fun hb4 => ?_) (fun hb4 => ?_)
        · skip
          refine at_skip rfl rfl hb4 rfl ?_
          refine at_skip rfl rfl hb4 rfl ?_
          refine at_skip rfl rfl hb4 rfl ?_
          refine at_pure (pv_pick_t rfl hb4 rfl) rfl ?_
          refine at_pure (pv_move rfl) rfl ?_
          refine at_skip rfl rfl rfl rfl ?_
          refine at_skip rfl rfl rfl rfl ?_
          refine at_skip rfl rfl rfl rfl ?_
          refine at_skip rfl rfl rfl rfl ?_
          refine at_skip rfl rfl rfl rfl ?_
          refine at_pure (pv_pick_t rfl rfl rfl) rfl ?_
          refine at_pure (pv_move rfl) rfl ?_
          refine at_skip rfl rfl rfl rfl ?_
          refine at_skip rfl rfl rfl rfl ?_
          refine at_skip rfl rfl rfl rfl ?_
          refine at_skip rfl rfl rfl rfl ?_
          refine at_skip rfl rfl rfl rfl ?_
          refine at_pure (pv_pick_t rfl rfl rfl) rfl ?_
          refine at_pure (pv_move rfl) rfl ?_
          refine at_skip rfl rfl rfl rfl ?_
          refine at_skip rfl rfl rfl rfl ?_
          refine at_skip rfl rfl rfl rfl ?_
          refine at_skip rfl rfl rfl rfl ?_
          refine at_skip rfl rfl rfl rfl ?_
          refine at_pure (pv_pick_t rfl rfl rfl) rfl ?_
          refine at_nil ?_
          refine ex_go ?_
          refine cd_then rfl rfl ?_
          refine cd_seq ?_
          refine cd_region ?_
          refine at_pure (pv_build rfl (bu_56_)) rfl ?_
          refine at_turns (by exact turns_store sz_56 rfl rfl .agg rfl rfl (.s .z) (.rep (.rep (.rep (.rep (.rep .done))))) (.s .z)) ?_
          refine at_pure (pv_assign rfl) rfl ?_
          refine at_nil ?_
          refine ex_go ?_
          refine cd_ret ?_
          refine ex_then_ret ?_
          exact end_ct rfl (by exact Lies.box ag_56 rfl (.s .z) rfl) rfl (fun w hs => ⟨by clear hs; first | (have z : ofOk a b c d e f g = false := (by first | (simp_all [ofOk]; done) | (simp_all [ofOk]; omega)); rw [z]; rfl) | (have z : ofOk a b c d e f g = true := (by first | (simp_all [ofOk]; done) | (simp_all [ofOk]; omega)); rw [z]; rfl), hs.keep⟩)
        · skip
          refine at_pure_g rfl rfl hb4 (pv_field0 fa_54_4 rfl (r := 4) rfl) rfl ?_
          refine at_pure_g rfl rfl hb4 (by exact pv_load ld_3 rfl (box_cell .z (.s (.s (.s (.s .z)))))) rfl ?_
          refine at_pure_g rfl rfl hb4 (pv_gtr rfl rfl) rfl ?_
          refine at_pure (pv_pick_f rfl hb4 rfl) rfl ?_
          refine at_pure (pv_move rfl) rfl ?_
          refine at_split 31 rfl (fun hb5 => ?_) (fun hb5 => ?_)
          · skip
            refine at_skip rfl rfl hb5 rfl ?_
            refine at_skip rfl rfl hb5 rfl ?_
            refine at_skip rfl rfl hb5 rfl ?_
            refine at_skip rfl rfl hb5 rfl ?_
            refine at_skip rfl rfl hb5 rfl ?_
            refine at_pure (pv_pick_t rfl hb5 rfl) rfl ?_
            refine at_pure (pv_move rfl) rfl ?_
            refine at_skip rfl rfl rfl rfl ?_
            refine at_skip rfl rfl rfl rfl ?_
            refine at_skip rfl rfl rfl rfl ?_
            refine at_skip rfl rfl rfl rfl ?_
            refine at_skip rfl rfl rfl rfl ?_
            refine at_pure (pv_pick_t rfl rfl rfl) rfl ?_
            refine at_pure (pv_move rfl) rfl ?_
            refine at_skip rfl rfl rfl rfl ?_
            refine at_skip rfl rfl rfl rfl ?_
            refine at_skip rfl rfl rfl rfl ?_
            refine at_skip rfl rfl rfl rfl ?_
            refine at_skip rfl rfl rfl rfl ?_
            refine at_pure (pv_pick_t rfl rfl rfl) rfl ?_
            refine at_nil ?_
            refine ex_go ?_
            refine cd_then rfl rfl ?_
            refine cd_seq ?_
            refine cd_region ?_
            refine at_pure (pv_build rfl (bu_56_)) rfl ?_
            refine at_turns (by exact turns_store sz_56 rfl rfl .agg rfl rfl (.s .z) (.rep (.rep (.rep (.rep (.rep .done))))) (.s .z)) ?_
            refine at_pure (pv_assign rfl) rfl ?_
            refine at_nil ?_
            refine ex_go ?_
            refine cd_ret ?_
            refine ex_then_ret ?_
            exact end_ct rfl (by exact Lies.box ag_56 rfl (.s .z) rfl) rfl (fun w hs => ⟨by clear hs; first | (have z : ofOk a b c d e f g = false := (by first | (simp_all [ofOk]; done) | (simp_all [ofOk]; omega)); rw [z]; rfl) | (have z : ofOk a b c d e f g = true := (by first | (simp_all [ofOk]; done) | (simp_all [ofOk]; omega)); rw [z]; rfl), hs.keep⟩)
          · skip
            refine at_pure_g rfl rfl hb5 (pv_move rfl) rfl ?_
            refine at_pure_g rfl rfl hb5 (pv_field0 fa_54_3 rfl (r := 3) rfl) rfl ?_
            refine at_pure_g rfl rfl hb5 (by exact pv_load ld_3 rfl (box_cell .z (.s (.s (.s .z))))) rfl ?_
            refine at_does_g rfl rfl hb5 (does_val cal60 rfl rfl rfl (fun w hs => few_any _ w)) rfl (fun _ => ?_)
            refine at_pure_g rfl rfl hb5 (pv_not rfl) rfl ?_
            refine at_pure (pv_pick_f rfl hb5 rfl) rfl ?_
            refine at_pure (pv_move rfl) rfl ?_
            refine at_split 38 rfl (fun hb6 => ?_) (fun hb6 => ?_)
            · skip
              refine at_skip rfl rfl hb6 rfl ?_
              refine at_skip rfl rfl hb6 rfl ?_
              refine at_skip rfl rfl hb6 rfl ?_
              refine at_skip rfl rfl hb6 rfl ?_
              refine at_skip rfl rfl hb6 rfl ?_
              refine at_pure (pv_pick_t rfl hb6 rfl) rfl ?_
              refine at_pure (pv_move rfl) rfl ?_
              refine at_skip rfl rfl rfl rfl ?_
              refine at_skip rfl rfl rfl rfl ?_
              refine at_skip rfl rfl rfl rfl ?_
              refine at_skip rfl rfl rfl rfl ?_
              refine at_skip rfl rfl rfl rfl ?_
              refine at_pure (pv_pick_t rfl rfl rfl) rfl ?_
              refine at_nil ?_
              refine ex_go ?_
              refine cd_then rfl rfl ?_
              refine cd_seq ?_
              refine cd_region ?_
              refine at_pure (pv_build rfl (bu_56_)) rfl ?_
              refine at_turns (by exact turns_store sz_56 rfl rfl .agg rfl rfl (.s .z) (.rep (.rep (.rep (.rep (.rep .done))))) (.s .z)) ?_
              refine at_pure (pv_assign rfl) rfl ?_
              refine at_nil ?_
              refine ex_go ?_
              refine cd_ret ?_
              refine ex_then_ret ?_
              exact end_ct rfl (by exact Lies.box ag_56 rfl (.s .z) rfl) rfl (fun w hs => ⟨by clear hs; first | (have z : ofOk a b c d e f g = false := (by first | (simp_all [ofOk]; done) | (simp_all [ofOk]; omega)); rw [z]; rfl) | (have z : ofOk a b c d e f g = true := (by first | (simp_all [ofOk]; done) | (simp_all [ofOk]; omega)); rw [z]; rfl), hs.keep⟩)
            · skip
              refine at_pure_g rfl rfl hb6 (pv_move rfl) rfl ?_
              refine at_pure_g rfl rfl hb6 (pv_field0 fa_54_5 rfl (r := 5) rfl) rfl ?_
              refine at_pure_g rfl rfl hb6 (by exact pv_load ld_3 rfl (box_cell .z (.s (.s (.s (.s (.s .z))))))) rfl ?_
              refine at_does_g rfl rfl hb6 (does_val cal60 rfl rfl rfl (fun w hs => few_any _ w)) rfl (fun _ => ?_)
              refine at_pure_g rfl rfl hb6 (pv_not rfl) rfl ?_
              refine at_pure (pv_pick_f rfl hb6 rfl) rfl ?_
              refine at_pure (pv_move rfl) rfl ?_
              refine at_split 45 rfl (fun hb7 => ?_) (fun hb7 => ?_)
              · skip
                refine at_skip rfl rfl hb7 rfl ?_
                refine at_skip rfl rfl hb7 rfl ?_
                refine at_skip rfl rfl hb7 rfl ?_
                refine at_skip rfl rfl hb7 rfl ?_
                refine at_skip rfl rfl hb7 rfl ?_
                refine at_pure (pv_pick_t rfl hb7 rfl) rfl ?_
                refine at_nil ?_
                refine ex_go ?_
                refine cd_then rfl rfl ?_
                refine cd_seq ?_
                refine cd_region ?_
                refine at_pure (pv_build rfl (bu_56_)) rfl ?_
                refine at_turns (by exact turns_store sz_56 rfl rfl .agg rfl rfl (.s .z) (.rep (.rep (.rep (.rep (.rep .done))))) (.s .z)) ?_
                refine at_pure (pv_assign rfl) rfl ?_
                refine at_nil ?_
                refine ex_go ?_
                refine cd_ret ?_
                refine ex_then_ret ?_
                exact end_ct rfl (by exact Lies.box ag_56 rfl (.s .z) rfl) rfl (fun w hs => ⟨by clear hs; first | (have z : ofOk a b c d e f g = false := (by first | (simp_all [ofOk]; done) | (simp_all [ofOk]; omega)); rw [z]; rfl) | (have z : ofOk a b c d e f g = true := (by first | (simp_all [ofOk]; done) | (simp_all [ofOk]; omega)); rw [z]; rfl), hs.keep⟩)
              · skip
                refine at_pure_g rfl rfl hb7 (pv_move rfl) rfl ?_
                refine at_pure_g rfl rfl hb7 (pv_field0 fa_54_6 rfl (r := 6) rfl) rfl ?_
                refine at_pure_g rfl rfl hb7 (by exact pv_load ld_3 rfl (box_cell .z (.s (.s (.s (.s (.s (.s .z)))))))) rfl ?_
                refine at_does_g rfl rfl hb7 (does_val cal60 rfl rfl rfl (fun w hs => few_any _ w)) rfl (fun _ => ?_)
                refine at_pure_g rfl rfl hb7 (pv_not rfl) rfl ?_
                refine at_pure (pv_pick_f rfl hb7 rfl) rfl ?_
                refine at_nil ?_
                refine ex_go ?_
                refine cd_if rfl (fun hb8 => ?_) (fun hb8 => ?_)
                · skip
                  refine cd_seq ?_
                  refine cd_region ?_
                  refine at_pure (pv_build rfl (bu_56_)) rfl ?_
                  refine at_turns (by exact turns_store sz_56 rfl rfl .agg rfl rfl (.s .z) (.rep (.rep (.rep (.rep (.rep .done))))) (.s .z)) ?_
                  refine at_pure (pv_assign rfl) rfl ?_
                  refine at_nil ?_
                  refine ex_go ?_
                  refine cd_ret ?_
                  refine ex_then_ret ?_
                  exact end_ct rfl (by exact Lies.box ag_56 rfl (.s .z) rfl) rfl (fun w hs => ⟨by clear hs; first | (have z : ofOk a b c d e f g = false := (by first | (simp_all [ofOk]; done) | (simp_all [ofOk]; omega)); rw [z]; rfl) | (have z : ofOk a b c d e f g = true := (by first | (simp_all [ofOk]; done) | (simp_all [ofOk]; omega)); rw [z]; rfl), hs.keep⟩)
                · skip
                  refine cd_skip ?_
                  refine ex_go ?_
                  refine cd_seq ?_
                  refine cd_draw' 24 follows ?_
                  refine dr_take 0 rfl (by kernel_rfl) (by first | exact List.Sublist.refl _ | (repeat first | exact List.Sublist.slnil | exact List.nil_sublist _ | apply List.Sublist.cons_cons | apply List.Sublist.cons)) (pv_field0 fa_54_3 rfl (r := 3) rfl) rfl ?_
                  refine dr_take 1 rfl (by kernel_rfl) (by first | exact List.Sublist.refl _ | (repeat first | exact List.Sublist.slnil | exact List.nil_sublist _ | apply List.Sublist.cons_cons | apply List.Sublist.cons)) (by exact pv_load ld_3 rfl (box_cell .z (.s (.s (.s .z))))) rfl ?_
                  refine dr_take 2 rfl (by kernel_rfl) (by first | exact List.Sublist.refl _ | (repeat first | exact List.Sublist.slnil | exact List.nil_sublist _ | apply List.Sublist.cons_cons | apply List.Sublist.cons)) (pv_field0 fa_54_1 rfl (r := 1) rfl) rfl ?_
                  refine dr_take 3 rfl (by kernel_rfl) (by first | exact List.Sublist.refl _ | (repeat first | exact List.Sublist.slnil | exact List.nil_sublist _ | apply List.Sublist.cons_cons | apply List.Sublist.cons)) (by exact pv_load ld_3 rfl (box_cell .z (.s .z))) rfl ?_
                  refine dr_take 4 rfl (by kernel_rfl) (by first | exact List.Sublist.refl _ | (repeat first | exact List.Sublist.slnil | exact List.nil_sublist _ | apply List.Sublist.cons_cons | apply List.Sublist.cons)) (pv_field0 fa_54_0 rfl (r := 0) rfl) rfl ?_
                  refine dr_take 5 rfl (by kernel_rfl) (by first | exact List.Sublist.refl _ | (repeat first | exact List.Sublist.slnil | exact List.nil_sublist _ | apply List.Sublist.cons_cons | apply List.Sublist.cons)) (by exact pv_load ld_3 rfl (box_cell .z .z)) rfl ?_
                  refine dr_take 7 rfl (by kernel_rfl) (by first | exact List.Sublist.refl _ | (repeat first | exact List.Sublist.slnil | exact List.nil_sublist _ | apply List.Sublist.cons_cons | apply List.Sublist.cons)) (pv_field0 fa_54_1 rfl (r := 1) rfl) rfl ?_
                  refine dr_take 8 rfl (by kernel_rfl) (by first | exact List.Sublist.refl _ | (repeat first | exact List.Sublist.slnil | exact List.nil_sublist _ | apply List.Sublist.cons_cons | apply List.Sublist.cons)) (by exact pv_load ld_3 rfl (box_cell .z (.s .z))) rfl ?_
                  refine dr_take 9 rfl (by kernel_rfl) (by first | exact List.Sublist.refl _ | (repeat first | exact List.Sublist.slnil | exact List.nil_sublist _ | apply List.Sublist.cons_cons | apply List.Sublist.cons)) (pv_field0 fa_54_0 rfl (r := 0) rfl) rfl ?_
                  refine dr_take 10 rfl (by kernel_rfl) (by first | exact List.Sublist.refl _ | (repeat first | exact List.Sublist.slnil | exact List.nil_sublist _ | apply List.Sublist.cons_cons | apply List.Sublist.cons)) (by exact pv_load ld_3 rfl (box_cell .z .z)) rfl ?_
                  refine dr_take 12 rfl (by kernel_rfl) (by first | exact List.Sublist.refl _ | (repeat first | exact List.Sublist.slnil | exact List.nil_sublist _ | apply List.Sublist.cons_cons | apply List.Sublist.cons)) (pv_field0 fa_54_4 rfl (r := 4) rfl) rfl ?_
                  refine dr_take 13 rfl (by kernel_rfl) (by first | exact List.Sublist.refl _ | (repeat first | exact List.Sublist.slnil | exact List.nil_sublist _ | apply List.Sublist.cons_cons | apply List.Sublist.cons)) (by exact pv_load ld_3 rfl (box_cell .z (.s (.s (.s (.s .z)))))) rfl ?_
                  refine dr_take 14 rfl (by kernel_rfl) (by first | exact List.Sublist.refl _ | (repeat first | exact List.Sublist.slnil | exact List.nil_sublist _ | apply List.Sublist.cons_cons | apply List.Sublist.cons)) (pv_field0 fa_54_5 rfl (r := 5) rfl) rfl ?_
                  refine dr_take 15 rfl (by kernel_rfl) (by first | exact List.Sublist.refl _ | (repeat first | exact List.Sublist.slnil | exact List.nil_sublist _ | apply List.Sublist.cons_cons | apply List.Sublist.cons)) (by exact pv_load ld_3 rfl (box_cell .z (.s (.s (.s (.s (.s .z))))))) rfl ?_
                  refine dr_take 16 rfl (by kernel_rfl) (by first | exact List.Sublist.refl _ | (repeat first | exact List.Sublist.slnil | exact List.nil_sublist _ | apply List.Sublist.cons_cons | apply List.Sublist.cons)) (pv_field0 fa_54_6 rfl (r := 6) rfl) rfl ?_
                  refine dr_take 17 rfl (by kernel_rfl) (by first | exact List.Sublist.refl _ | (repeat first | exact List.Sublist.slnil | exact List.nil_sublist _ | apply List.Sublist.cons_cons | apply List.Sublist.cons)) (by exact pv_load ld_3 rfl (box_cell .z (.s (.s (.s (.s (.s (.s .z)))))))) rfl ?_
                  refine dr_take 18 rfl (by kernel_rfl) (by first | exact List.Sublist.refl _ | (repeat first | exact List.Sublist.slnil | exact List.nil_sublist _ | apply List.Sublist.cons_cons | apply List.Sublist.cons)) (pv_field0 fa_54_2 rfl (r := 2) rfl) rfl ?_
                  refine dr_take 19 rfl (by kernel_rfl) (by first | exact List.Sublist.refl _ | (repeat first | exact List.Sublist.slnil | exact List.nil_sublist _ | apply List.Sublist.cons_cons | apply List.Sublist.cons)) (by exact pv_load ld_3 rfl (box_cell .z (.s (.s .z)))) rfl ?_
                  refine dr_take 20 rfl (by kernel_rfl) (by first | exact List.Sublist.refl _ | (repeat first | exact List.Sublist.slnil | exact List.nil_sublist _ | apply List.Sublist.cons_cons | apply List.Sublist.cons)) (pv_field0 fa_54_0 rfl (r := 0) rfl) rfl ?_
                  refine dr_take 21 rfl (by kernel_rfl) (by first | exact List.Sublist.refl _ | (repeat first | exact List.Sublist.slnil | exact List.nil_sublist _ | apply List.Sublist.cons_cons | apply List.Sublist.cons)) (by exact pv_load ld_3 rfl (box_cell .z .z)) rfl ?_
                  refine dr_one 6 (by kernel_rfl) rfl ?_
                  refine at_does (does_val cal52 rfl rfl rfl (fun w hs => frames_any _ _ _ w)) rfl (fun _ => ?_)
                  refine at_nil (dr_next (fun _ => (by first | exact List.Sublist.refl _ | (repeat first | exact List.Sublist.slnil | exact List.nil_sublist _ | apply List.Sublist.cons_cons | apply List.Sublist.cons))) ?_)
                  refine dr_one 11 (by kernel_rfl) rfl ?_
                  refine at_does (does_val cal52 rfl rfl rfl (fun w hs => frames_any _ _ _ w)) rfl (fun _ => ?_)
                  refine at_nil (dr_next (fun _ => (by first | exact List.Sublist.refl _ | (repeat first | exact List.Sublist.slnil | exact List.nil_sublist _ | apply List.Sublist.cons_cons | apply List.Sublist.cons))) ?_)
                  refine dr_one 22 (by kernel_rfl) rfl ?_
                  refine at_does (does_val cal52 rfl rfl rfl (fun w hs => frames_any _ _ _ w)) rfl (fun _ => ?_)
                  refine at_nil (dr_next (fun _ => (by first | exact List.Sublist.refl _ | (repeat first | exact List.Sublist.slnil | exact List.nil_sublist _ | apply List.Sublist.cons_cons | apply List.Sublist.cons))) ?_)
                  refine dr_take 23 rfl (by kernel_rfl) (by first | exact List.Sublist.refl _ | (repeat first | exact List.Sublist.slnil | exact List.nil_sublist _ | apply List.Sublist.cons_cons | apply List.Sublist.cons)) (pv_build rfl (bu_56_0_1_2_3_4 _ _ _ _ _)) rfl ?_
                  refine dr_one 24 (by kernel_rfl) rfl ?_
                  refine at_turns (by exact turns_store sz_56 rfl rfl .agg rfl rfl (.s .z) (.rep (.rep (.rep (.rep (.rep .done))))) (.s .z)) ?_
                  refine at_nil (dr_next (fun h => by cases h) ?_)
                  refine dr_one 25 (by kernel_rfl) rfl ?_
                  refine at_pure (pv_assign rfl) rfl ?_
                  refine at_nil (dr_next (fun h => by cases h) ?_)
                  refine dr_done (by kernel_rfl) ?_
                  refine ex_go ?_
                  refine cd_ret ?_
                  exact end_ct rfl (by exact Lies.box ag_56 rfl (.s .z) rfl) rfl (fun w hs => ⟨by clear hs; first | (have z : ofOk a b c d e f g = false := (by first | (simp_all [ofOk]; done) | (simp_all [ofOk]; omega)); rw [z]; rfl) | (have z : ofOk a b c d e f g = true := (by first | (simp_all [ofOk]; done) | (simp_all [ofOk]; omega)); rw [z]; rfl), hs.keep⟩)

theorem total_any (a b c d e : Int) (w : World) : Calls Try.prog 25 [.agg #[.int .i64 a, .int .i64 b, .int .i64 c, .int .i64 d, .int .i64 e]].toArray w (Val (.int .i64 (totalI a b c d e)) w) := by
  refine calls_body (n := 31) Try.func25 rfl rfl rfl (St.init _ []) ?_
  refine cd_seq ?_
  refine cd_region ?_
  refine at_does (does_box rfl .agg (fun _ => .nil)) rfl (fun g1 => ?_)
  refine at_pure (pv_assign rfl) rfl ?_
  refine at_nil ?_
  refine ex_go ?_
  refine cd_seq ?_
  refine cd_region ?_
  refine at_pure (pv_assign rfl) rfl ?_
  refine at_nil ?_
  refine ex_go ?_
  refine cd_seq ?_
  refine cd_seq ?_
  refine cd_region ?_
  refine at_pure (pv_field0 fa_56_0 rfl (r := 0) rfl) rfl ?_
  refine at_pure (by exact pv_load ld_3 rfl (box_cell .z .z)) rfl ?_
  refine at_pure (pv_field0 fa_56_1 rfl (r := 1) rfl) rfl ?_
  refine at_pure (by exact pv_load ld_3 rfl (box_cell .z (.s .z))) rfl ?_
  refine at_pure (pv_field0 fa_56_2 rfl (r := 2) rfl) rfl ?_
  refine at_pure (by exact pv_load ld_3 rfl (box_cell .z (.s (.s .z)))) rfl ?_
  refine at_pure (pv_field0 fa_56_3 rfl (r := 3) rfl) rfl ?_
  refine at_pure (by exact pv_load ld_3 rfl (box_cell .z (.s (.s (.s .z))))) rfl ?_
  refine at_pure (pv_field0 fa_56_4 rfl (r := 4) rfl) rfl ?_
  refine at_pure (by exact pv_load ld_3 rfl (box_cell .z (.s (.s (.s (.s .z)))))) rfl ?_
  refine at_pure (pv_build rfl (bu_105_0_1_2_3_4 _ _ _ _ _)) rfl ?_
  refine at_pure (pv_move rfl) rfl ?_
  refine at_nil ?_
  refine ex_go ?_
  refine cd_block ?_
  refine cd_rounds 5 ?_
  refine cd_seq ?_
  refine cd_region ?_
  refine at_pure (pv_lss rfl rfl) rfl ?_
  refine at_nil ?_
  refine ex_go ?_
  refine cd_seq ?_
  refine cd_then rfl (by decide) ?_
  refine cd_skip ?_
  refine ex_go ?_
  refine cd_seq ?_
  refine cd_block ?_
  refine cd_seq ?_
  refine cd_region ?_
  refine at_pure (pv_arr Try.underlying105 ld_3 c1_3 rfl rfl (by decide) rfl) rfl ?_
  refine at_pure (pv_assign rfl) rfl ?_
  refine at_nil ?_
  refine ex_go ?_
  refine cd_seq ?_
  refine cd_seq ?_
  refine cd_region ?_
  refine at_pure (pv_move rfl) rfl ?_
  refine at_pure (pv_lss rfl rfl) rfl ?_
  refine at_pure (pv_move rfl) rfl ?_
  refine at_split 22 rfl (fun hb1 => ?_) (fun hb1 => ?_)
  · skip
    refine at_skip rfl rfl hb1 rfl ?_
    refine at_skip rfl rfl hb1 rfl ?_
    refine at_pure (pv_pick_t rfl hb1 rfl) rfl ?_
    refine at_nil ?_
    refine ex_go ?_
    refine cd_then rfl rfl ?_
    refine cd_seq ?_
    refine cd_region ?_
    refine at_pure (pv_assign rfl) rfl ?_
    refine at_nil ?_
    refine ex_go ?_
    refine cd_ret ?_
    refine ex_then_ret (ex_in_ret (ex_then_ret (ex_then_ret (ex_in_ret (ex_then_ret ?_)))))
    exact end_ret1 rfl rfl (fun w hs => ⟨by clear hs; first | (have z : (manyB a && manyB b && manyB c && manyB d && manyB e) = false := (by simp [manyB]; try simp at *; intros; omega); simp [totalI, z, sel]; done) | (have z : (manyB a && manyB b && manyB c && manyB d && manyB e) = true := (by simp [manyB]; try simp at *; omega); simp [totalI, z, sel]; done), hs.keep⟩)
  · skip
    refine at_pure_g rfl rfl hb1 (pv_move rfl) rfl ?_
    refine at_pure_g rfl rfl hb1 (pv_gtr rfl rfl) rfl ?_
    refine at_pure (pv_pick_f rfl hb1 rfl) rfl ?_
    refine at_nil ?_
    refine ex_go ?_
    refine cd_if rfl (fun hb2 => ?_) (fun hb2 => ?_)
    · skip
      refine cd_seq ?_
      refine cd_region ?_
      refine at_pure (pv_assign rfl) rfl ?_
      refine at_nil ?_
      refine ex_go ?_
      refine cd_ret ?_
      refine ex_then_ret (ex_in_ret (ex_then_ret (ex_then_ret (ex_in_ret (ex_then_ret ?_)))))
      exact end_ret1 rfl rfl (fun w hs => ⟨by clear hs; first | (have z : (manyB a && manyB b && manyB c && manyB d && manyB e) = false := (by simp [manyB]; try simp at *; intros; omega); simp [totalI, z, sel]; done) | (have z : (manyB a && manyB b && manyB c && manyB d && manyB e) = true := (by simp [manyB]; try simp at *; omega); simp [totalI, z, sel]; done), hs.keep⟩)
    · skip
      refine cd_skip ?_
      refine ex_go ?_
      simp only [decide_eq_false_iff_not] at *
      refine cd_region ?_
      refine at_pure (pv_move rfl) rfl ?_
      refine at_pure (pv_move rfl) rfl ?_
      refine at_pure (by first | exact pv_add_n rfl rfl (by unfold In64; omega) | exact pv_add rfl rfl) rfl ?_
      refine at_pure (pv_assign rfl) rfl ?_
      refine at_nil ?_
      refine ex_in_normal (ex_go ?_)
      refine cd_region ?_
      refine at_pure (by first | exact pv_add_n rfl rfl (by unfold In64; omega) | exact pv_add rfl rfl) rfl ?_
      refine at_pure (pv_move rfl) rfl ?_
      refine at_nil ?_
      refine ex_round ?_
      refine cd_seq ?_
      refine cd_region ?_
      refine at_pure (pv_lss rfl rfl) rfl ?_
      refine at_nil ?_
      refine ex_go ?_
      refine cd_seq ?_
      refine cd_then rfl (by decide) ?_
      refine cd_skip ?_
      refine ex_go ?_
      refine cd_seq ?_
      refine cd_block ?_
      refine cd_seq ?_
      refine cd_region ?_
      refine at_pure (pv_arr Try.underlying105 ld_3 c1_3 rfl rfl (by decide) rfl) rfl ?_
      refine at_pure (pv_assign rfl) rfl ?_
      refine at_nil ?_
      refine ex_go ?_
      refine cd_seq ?_
      refine cd_seq ?_
      refine cd_region ?_
      refine at_pure (pv_move rfl) rfl ?_
      refine at_pure (pv_lss rfl rfl) rfl ?_
      refine at_pure (pv_move rfl) rfl ?_
      refine at_split 22 rfl (fun hb3 => ?_) (fun hb3 => ?_)
      · skip
        refine at_skip rfl rfl hb3 rfl ?_
        refine at_skip rfl rfl hb3 rfl ?_
        refine at_pure (pv_pick_t rfl hb3 rfl) rfl ?_
        refine at_nil ?_
        refine ex_go ?_
        refine cd_then rfl rfl ?_
        refine cd_seq ?_
        refine cd_region ?_
        refine at_pure (pv_assign rfl) rfl ?_
        refine at_nil ?_
        refine ex_go ?_
        refine cd_ret ?_
        refine ex_then_ret (ex_in_ret (ex_then_ret (ex_then_ret (ex_in_ret (ex_then_ret ?_)))))
        exact end_ret1 rfl rfl (fun w hs => ⟨by clear hs; first | (have z : (manyB a && manyB b && manyB c && manyB d && manyB e) = false := (by simp [manyB]; try simp at *; intros; omega); simp [totalI, z, sel]; done) | (have z : (manyB a && manyB b && manyB c && manyB d && manyB e) = true := (by simp [manyB]; try simp at *; omega); simp [totalI, z, sel]; done), hs.keep⟩)
      · skip
        refine at_pure_g rfl rfl hb3 (pv_move rfl) rfl ?_
        refine at_pure_g rfl rfl hb3 (pv_gtr rfl rfl) rfl ?_
        refine at_pure (pv_pick_f rfl hb3 rfl) rfl ?_
        refine at_nil ?_
        refine ex_go ?_
        refine cd_if rfl (fun hb4 => ?_) (fun hb4 => ?_)
        · skip
          refine cd_seq ?_
          refine cd_region ?_
          refine at_pure (pv_assign rfl) rfl ?_
          refine at_nil ?_
          refine ex_go ?_
          refine cd_ret ?_
          refine ex_then_ret (ex_in_ret (ex_then_ret (ex_then_ret (ex_in_ret (ex_then_ret ?_)))))
          exact end_ret1 rfl rfl (fun w hs => ⟨by clear hs; first | (have z : (manyB a && manyB b && manyB c && manyB d && manyB e) = false := (by simp [manyB]; try simp at *; intros; omega); simp [totalI, z, sel]; done) | (have z : (manyB a && manyB b && manyB c && manyB d && manyB e) = true := (by simp [manyB]; try simp at *; omega); simp [totalI, z, sel]; done), hs.keep⟩)
        · skip
          refine cd_skip ?_
          refine ex_go ?_
          simp only [decide_eq_false_iff_not] at *
          refine cd_region ?_
          refine at_pure (pv_move rfl) rfl ?_
          refine at_pure (pv_move rfl) rfl ?_
          refine at_pure (by first | exact pv_add_n rfl rfl (by unfold In64; omega) | exact pv_add rfl rfl) rfl ?_
          refine at_pure (pv_assign rfl) rfl ?_
          refine at_nil ?_
          refine ex_in_normal (ex_go ?_)
          refine cd_region ?_
          refine at_pure (by first | exact pv_add_n rfl rfl (by unfold In64; omega) | exact pv_add rfl rfl) rfl ?_
          refine at_pure (pv_move rfl) rfl ?_
          refine at_nil ?_
          refine ex_round ?_
          refine cd_seq ?_
          refine cd_region ?_
          refine at_pure (pv_lss rfl rfl) rfl ?_
          refine at_nil ?_
          refine ex_go ?_
          refine cd_seq ?_
          refine cd_then rfl (by decide) ?_
          refine cd_skip ?_
          refine ex_go ?_
          refine cd_seq ?_
          refine cd_block ?_
          refine cd_seq ?_
          refine cd_region ?_
          refine at_pure (pv_arr Try.underlying105 ld_3 c1_3 rfl rfl (by decide) rfl) rfl ?_
          refine at_pure (pv_assign rfl) rfl ?_
          refine at_nil ?_
          refine ex_go ?_
          refine cd_seq ?_
          refine cd_seq ?_
          refine cd_region ?_
          refine at_pure (pv_move rfl) rfl ?_
          refine at_pure (pv_lss rfl rfl) rfl ?_
          refine at_pure (pv_move rfl) rfl ?_
          refine at_split 22 rfl (fun hb5 => ?_) (fun hb5 => ?_)
          · skip
            refine at_skip rfl rfl hb5 rfl ?_
            refine at_skip rfl rfl hb5 rfl ?_
            refine at_pure (pv_pick_t rfl hb5 rfl) rfl ?_
            refine at_nil ?_
            refine ex_go ?_
            refine cd_then rfl rfl ?_
            refine cd_seq ?_
            refine cd_region ?_
            refine at_pure (pv_assign rfl) rfl ?_
            refine at_nil ?_
            refine ex_go ?_
            refine cd_ret ?_
            refine ex_then_ret (ex_in_ret (ex_then_ret (ex_then_ret (ex_in_ret (ex_then_ret ?_)))))
            exact end_ret1 rfl rfl (fun w hs => ⟨by clear hs; first | (have z : (manyB a && manyB b && manyB c && manyB d && manyB e) = false := (by simp [manyB]; try simp at *; intros; omega); simp [totalI, z, sel]; done) | (have z : (manyB a && manyB b && manyB c && manyB d && manyB e) = true := (by simp [manyB]; try simp at *; omega); simp [totalI, z, sel]; done), hs.keep⟩)
          · skip
            refine at_pure_g rfl rfl hb5 (pv_move rfl) rfl ?_
            refine at_pure_g rfl rfl hb5 (pv_gtr rfl rfl) rfl ?_
            refine at_pure (pv_pick_f rfl hb5 rfl) rfl ?_
            refine at_nil ?_
            refine ex_go ?_
            refine cd_if rfl (fun hb6 => ?_) (fun hb6 => ?_)
            · skip
              refine cd_seq ?_
              refine cd_region ?_
              refine at_pure (pv_assign rfl) rfl ?_
              refine at_nil ?_
              refine ex_go ?_
              refine cd_ret ?_
              refine ex_then_ret (ex_in_ret (ex_then_ret (ex_then_ret (ex_in_ret (ex_then_ret ?_)))))
              exact end_ret1 rfl rfl (fun w hs => ⟨by clear hs; first | (have z : (manyB a && manyB b && manyB c && manyB d && manyB e) = false := (by simp [manyB]; try simp at *; intros; omega); simp [totalI, z, sel]; done) | (have z : (manyB a && manyB b && manyB c && manyB d && manyB e) = true := (by simp [manyB]; try simp at *; omega); simp [totalI, z, sel]; done), hs.keep⟩)
            · skip
              refine cd_skip ?_
              refine ex_go ?_
              simp only [decide_eq_false_iff_not] at *
              refine cd_region ?_
              refine at_pure (pv_move rfl) rfl ?_
              refine at_pure (pv_move rfl) rfl ?_
              refine at_pure (by first | exact pv_add_n rfl rfl (by unfold In64; omega) | exact pv_add rfl rfl) rfl ?_
              refine at_pure (pv_assign rfl) rfl ?_
              refine at_nil ?_
              refine ex_in_normal (ex_go ?_)
              refine cd_region ?_
              refine at_pure (by first | exact pv_add_n rfl rfl (by unfold In64; omega) | exact pv_add rfl rfl) rfl ?_
              refine at_pure (pv_move rfl) rfl ?_
              refine at_nil ?_
              refine ex_round ?_
              refine cd_seq ?_
              refine cd_region ?_
              refine at_pure (pv_lss rfl rfl) rfl ?_
              refine at_nil ?_
              refine ex_go ?_
              refine cd_seq ?_
              refine cd_then rfl (by decide) ?_
              refine cd_skip ?_
              refine ex_go ?_
              refine cd_seq ?_
              refine cd_block ?_
              refine cd_seq ?_
              refine cd_region ?_
              refine at_pure (pv_arr Try.underlying105 ld_3 c1_3 rfl rfl (by decide) rfl) rfl ?_
              refine at_pure (pv_assign rfl) rfl ?_
              refine at_nil ?_
              refine ex_go ?_
              refine cd_seq ?_
              refine cd_seq ?_
              refine cd_region ?_
              refine at_pure (pv_move rfl) rfl ?_
              refine at_pure (pv_lss rfl rfl) rfl ?_
              refine at_pure (pv_move rfl) rfl ?_
              refine at_split 22 rfl (fun hb7 => ?_) (fun hb7 => ?_)
              · skip
                refine at_skip rfl rfl hb7 rfl ?_
                refine at_skip rfl rfl hb7 rfl ?_
                refine at_pure (pv_pick_t rfl hb7 rfl) rfl ?_
                refine at_nil ?_
                refine ex_go ?_
                refine cd_then rfl rfl ?_
                refine cd_seq ?_
                refine cd_region ?_
                refine at_pure (pv_assign rfl) rfl ?_
                refine at_nil ?_
                refine ex_go ?_
                refine cd_ret ?_
                refine ex_then_ret (ex_in_ret (ex_then_ret (ex_then_ret (ex_in_ret (ex_then_ret ?_)))))
                exact end_ret1 rfl rfl (fun w hs => ⟨by clear hs; first | (have z : (manyB a && manyB b && manyB c && manyB d && manyB e) = false := (by simp [manyB]; try simp at *; intros; omega); simp [totalI, z, sel]; done) | (have z : (manyB a && manyB b && manyB c && manyB d && manyB e) = true := (by simp [manyB]; try simp at *; omega); simp [totalI, z, sel]; done), hs.keep⟩)
              · skip
                refine at_pure_g rfl rfl hb7 (pv_move rfl) rfl ?_
                refine at_pure_g rfl rfl hb7 (pv_gtr rfl rfl) rfl ?_
                refine at_pure (pv_pick_f rfl hb7 rfl) rfl ?_
                refine at_nil ?_
                refine ex_go ?_
                refine cd_if rfl (fun hb8 => ?_) (fun hb8 => ?_)
                · skip
                  refine cd_seq ?_
                  refine cd_region ?_
                  refine at_pure (pv_assign rfl) rfl ?_
                  refine at_nil ?_
                  refine ex_go ?_
                  refine cd_ret ?_
                  refine ex_then_ret (ex_in_ret (ex_then_ret (ex_then_ret (ex_in_ret (ex_then_ret ?_)))))
                  exact end_ret1 rfl rfl (fun w hs => ⟨by clear hs; first | (have z : (manyB a && manyB b && manyB c && manyB d && manyB e) = false := (by simp [manyB]; try simp at *; intros; omega); simp [totalI, z, sel]; done) | (have z : (manyB a && manyB b && manyB c && manyB d && manyB e) = true := (by simp [manyB]; try simp at *; omega); simp [totalI, z, sel]; done), hs.keep⟩)
                · skip
                  refine cd_skip ?_
                  refine ex_go ?_
                  simp only [decide_eq_false_iff_not] at *
                  refine cd_region ?_
                  refine at_pure (pv_move rfl) rfl ?_
                  refine at_pure (pv_move rfl) rfl ?_
                  refine at_pure (by first | exact pv_add_n rfl rfl (by unfold In64; omega) | exact pv_add rfl rfl) rfl ?_
                  refine at_pure (pv_assign rfl) rfl ?_
                  refine at_nil ?_
                  refine ex_in_normal (ex_go ?_)
                  refine cd_region ?_
                  refine at_pure (by first | exact pv_add_n rfl rfl (by unfold In64; omega) | exact pv_add rfl rfl) rfl ?_
                  refine at_pure (pv_move rfl) rfl ?_
                  refine at_nil ?_
                  refine ex_round ?_
                  refine cd_seq ?_
                  refine cd_region ?_
                  refine at_pure (pv_lss rfl rfl) rfl ?_
                  refine at_nil ?_
                  refine ex_go ?_
                  refine cd_seq ?_
                  refine cd_then rfl (by decide) ?_
                  refine cd_skip ?_
                  refine ex_go ?_
                  refine cd_seq ?_
                  refine cd_block ?_
                  refine cd_seq ?_
                  refine cd_region ?_
                  refine at_pure (pv_arr Try.underlying105 ld_3 c1_3 rfl rfl (by decide) rfl) rfl ?_
                  refine at_pure (pv_assign rfl) rfl ?_
                  refine at_nil ?_
                  refine ex_go ?_
                  refine cd_seq ?_
                  refine cd_seq ?_
                  refine cd_region ?_
                  refine at_pure (pv_move rfl) rfl ?_
                  refine at_pure (pv_lss rfl rfl) rfl ?_
                  refine at_pure (pv_move rfl) rfl ?_
                  refine at_split 22 rfl (fun hb9 => ?_) (fun hb9 => ?_)
                  · skip
                    refine at_skip rfl rfl hb9 rfl ?_
                    refine at_skip rfl rfl hb9 rfl ?_
                    refine at_pure (pv_pick_t rfl hb9 rfl) rfl ?_
                    refine at_nil ?_
                    refine ex_go ?_
                    refine cd_then rfl rfl ?_
                    refine cd_seq ?_
                    refine cd_region ?_
                    refine at_pure (pv_assign rfl) rfl ?_
                    refine at_nil ?_
                    refine ex_go ?_
                    refine cd_ret ?_
                    refine ex_then_ret (ex_in_ret (ex_then_ret (ex_then_ret (ex_in_ret (ex_then_ret ?_)))))
                    exact end_ret1 rfl rfl (fun w hs => ⟨by clear hs; first | (have z : (manyB a && manyB b && manyB c && manyB d && manyB e) = false := (by simp [manyB]; try simp at *; intros; omega); simp [totalI, z, sel]; done) | (have z : (manyB a && manyB b && manyB c && manyB d && manyB e) = true := (by simp [manyB]; try simp at *; omega); simp [totalI, z, sel]; done), hs.keep⟩)
                  · skip
                    refine at_pure_g rfl rfl hb9 (pv_move rfl) rfl ?_
                    refine at_pure_g rfl rfl hb9 (pv_gtr rfl rfl) rfl ?_
                    refine at_pure (pv_pick_f rfl hb9 rfl) rfl ?_
                    refine at_nil ?_
                    refine ex_go ?_
                    refine cd_if rfl (fun hb10 => ?_) (fun hb10 => ?_)
                    · skip
                      refine cd_seq ?_
                      refine cd_region ?_
                      refine at_pure (pv_assign rfl) rfl ?_
                      refine at_nil ?_
                      refine ex_go ?_
                      refine cd_ret ?_
                      refine ex_then_ret (ex_in_ret (ex_then_ret (ex_then_ret (ex_in_ret (ex_then_ret ?_)))))
                      exact end_ret1 rfl rfl (fun w hs => ⟨by clear hs; first | (have z : (manyB a && manyB b && manyB c && manyB d && manyB e) = false := (by simp [manyB]; try simp at *; intros; omega); simp [totalI, z, sel]; done) | (have z : (manyB a && manyB b && manyB c && manyB d && manyB e) = true := (by simp [manyB]; try simp at *; omega); simp [totalI, z, sel]; done), hs.keep⟩)
                    · skip
                      refine cd_skip ?_
                      refine ex_go ?_
                      simp only [decide_eq_false_iff_not] at *
                      refine cd_region ?_
                      refine at_pure (pv_move rfl) rfl ?_
                      refine at_pure (pv_move rfl) rfl ?_
                      refine at_pure (by first | exact pv_add_n rfl rfl (by unfold In64; omega) | exact pv_add rfl rfl) rfl ?_
                      refine at_pure (pv_assign rfl) rfl ?_
                      refine at_nil ?_
                      refine ex_in_normal (ex_go ?_)
                      refine cd_region ?_
                      refine at_pure (by first | exact pv_add_n rfl rfl (by unfold In64; omega) | exact pv_add rfl rfl) rfl ?_
                      refine at_pure (pv_move rfl) rfl ?_
                      refine at_nil ?_
                      refine ex_round ?_
                      refine cd_seq ?_
                      refine cd_region ?_
                      refine at_pure (pv_lss rfl rfl) rfl ?_
                      refine at_nil ?_
                      refine ex_go ?_
                      refine cd_seq ?_
                      refine cd_else rfl (by decide) ?_
                      refine cd_exit ?_
                      refine ex_then_exit (ex_then_exit (ex_in (ex_go ?_)))
                      refine cd_seq ?_
                      refine cd_region ?_
                      refine at_pure (pv_move rfl) rfl ?_
                      refine at_pure (pv_assign rfl) rfl ?_
                      refine at_nil ?_
                      refine ex_go ?_
                      refine cd_ret ?_
                      exact end_ret1 rfl rfl (fun w hs => ⟨by clear hs; first | (have z : (manyB a && manyB b && manyB c && manyB d && manyB e) = false := (by simp [manyB]; try simp at *; intros; omega); simp [totalI, z, sel]; done) | (have z : (manyB a && manyB b && manyB c && manyB d && manyB e) = true := (by simp [manyB]; try simp at *; omega); simp [totalI, z, sel]; done), hs.keep⟩)

theorem of_sane (w : World) : Calls Try.prog 24 [.agg #[.int .i64 48000, .int .i64 48000, .int .i64 48000, .int .i64 10, .int .i64 64, .int .i64 5, .int .i64 7]].toArray w (Val (.tuple #[.agg #[.int .i64 10, .int .i64 2, .int .i64 64, .int .i64 5, .int .i64 7], .int .i64 0]) w) := of_any _ _ _ _ _ _ _ w
theorem frames_sane1 (w : World) : Calls Try.prog 52 [.int .i64 480, .int .i64 48000, .int .i64 96000].toArray w (Val (.int .i64 960) w) := frames_any _ _ _ w
theorem frames_sane2 (w : World) : Calls Try.prog 52 [.int .i64 1, .int .i64 44100, .int .i64 48000].toArray w (Val (.int .i64 2) w) := frames_any _ _ _ w
theorem total_sane (w : World) : Calls Try.prog 25 [.agg #[.int .i64 10, .int .i64 2, .int .i64 64, .int .i64 5, .int .i64 7]].toArray w (Val (.int .i64 88) w) := total_any _ _ _ _ _ w

theorem sane_lat  (w : World) : Calls Try.prog 21 [].toArray w (Val (.bool true) w) := by
  refine calls_body (n := 23) Try.func21 rfl rfl rfl (St.init _ []) ?_
  refine cd_seq ?_
  refine cd_region ?_
  refine at_pure (pv_assign rfl) rfl ?_
  refine at_nil ?_
  refine ex_go ?_
  refine cd_seq ?_
  refine cd_region ?_
  refine at_pure (pv_build rfl (bu_54_0_1_2_3_4_5_6 _ _ _ _ _ _ _)) rfl ?_
  refine at_does (does_val cal24 rfl rfl rfl (fun w hs => of_sane w)) rfl (fun _ => ?_)
  refine at_pure (pv_move rfl) rfl ?_
  refine at_pure (pv_extract rfl rfl) rfl ?_
  refine at_pure (pv_extract rfl rfl) rfl ?_
  refine at_does (does_alloc ze_56 .agg (fun _ => .nil)) rfl (fun g1 => ?_)
  refine at_turns (by exact turns_store sz_56 rfl rfl .agg rfl rfl .z (.rep (.rep (.rep (.rep (.rep .done))))) .z) ?_
  refine at_pure (pv_assign rfl) rfl ?_
  refine at_nil ?_
  refine ex_go ?_
  refine cd_seq ?_
  refine cd_region ?_
  refine at_does (does_val cal52 rfl rfl rfl (fun w hs => frames_sane1 w)) rfl (fun _ => ?_)
  refine at_pure (pv_eql rfl rfl) rfl ?_
  refine at_pure (pv_move rfl) rfl ?_
  refine at_does_g rfl rfl rfl (does_val cal52 rfl rfl rfl (fun w hs => frames_sane2 w)) rfl (fun _ => ?_)
  refine at_pure_g rfl rfl rfl (pv_eql rfl rfl) rfl ?_
  refine at_pure (pv_pick_t rfl rfl rfl) rfl ?_
  refine at_pure (pv_move rfl) rfl ?_
  refine at_pure_g rfl rfl rfl (pv_move rfl) rfl ?_
  refine at_pure_g rfl rfl rfl (pv_eql rfl rfl) rfl ?_
  refine at_pure (pv_pick_t rfl rfl rfl) rfl ?_
  refine at_pure (pv_move rfl) rfl ?_
  refine at_pure_g rfl rfl rfl (by exact pv_loads_box ag_56 rfl .z (.take (.take (.take (.take (.take .done)))))) rfl ?_
  refine at_does_g rfl rfl rfl (does_val cal25 rfl rfl rfl (fun w hs => total_sane w)) rfl (fun _ => ?_)
  refine at_pure_g rfl rfl rfl (pv_eql rfl rfl) rfl ?_
  refine at_pure (pv_pick_t rfl rfl rfl) rfl ?_
  refine at_pure (pv_assign rfl) rfl ?_
  refine at_nil ?_
  refine ex_go ?_
  refine cd_ret ?_
  exact end_ret1 rfl rfl (fun w hs => Val.mk hs)

def lonL (ns : List Q4) (ws : List Int) (id : Int) (sums : List Int) (l : Q4) : List Int := bif l.2.2.1 == id && decide (0 ≤ at1 sums (placeI ns l.1).toNat) then sums.set (placeI ns id).toNat (maxI (at1 sums (placeI ns id).toNat) (at1 sums (placeI ns l.1).toNat + at1 ws (placeI ns id).toNat)) else sums
def lonO (ns ls : List Q4) (ws : List Int) (sums : List Int) (id : Int) : List Int := ls.foldl (lonL ns ws id) sums
def lonI (ns : List Q4) (ws : List Int) (a : Int) : List Int := (List.replicate ns.length (-1)).set a.toNat (at1 ws a.toNat)
def lonR (ns ls : List Q4) (ws : List Int) (a : Int) : List Int := (orderS ns ls).foldl (lonO ns ls ws) (lonI ns ws a)
def lonOk (ns ls : List Q4) (ws : List Int) : Bool := validS ns ls && ((ws.length : Int) == (ns.length : Int)) && ws.all costB
def lonE (ns ls : List Q4) (ws : List Int) (f t : Int) : Int := bif !lonOk ns ls ws then 1 else bif decide (placeI ns f < 0) || decide (placeI ns t < 0) then 7 else bif decide (at1 (lonR ns ls ws (placeI ns f)) (placeI ns t).toNat < 0) then 13 else 0
def lonV (ns ls : List Q4) (ws : List Int) (f t : Int) : Int := bif lonE ns ls ws f t == 0 then at1 (lonR ns ls ws (placeI ns f)) (placeI ns t).toNat else 0
theorem at1_set {xs : List Int} {i j : Nat} {v : Int} (h : i < xs.length) : at1 (xs.set i v) j = if i = j then v else at1 xs j := by
  unfold at1
  rw [List.getD_eq_getElem?_getD, List.getD_eq_getElem?_getD, List.getElem?_set]
  split
  · rename_i e; subst e; simp [h]
  · rfl
theorem rep_of {xs : List Int} {n : Nat} {v : Int} (hl : xs.length = n) (h : ∀ j, j < n → xs[j]? = some v) : xs = List.replicate n v := by
  apply List.ext_getElem?
  intro j
  by_cases hj : j < n
  · rw [h j hj, List.getElem?_replicate, if_pos hj]
  · rw [List.getElem?_eq_none (by omega), List.getElem?_eq_none (by simp; omega)]
theorem maxI_le {p q M : Int} (h1 : -1 ≤ p ∧ p ≤ M) (h2 : -1 ≤ q ∧ q ≤ M) : -1 ≤ maxI p q ∧ maxI p q ≤ M := by unfold maxI; split <;> omega
theorem at1_lo {xs : List Int} {k : Nat} {M : Int} (h : ∀ x ∈ xs, -1 ≤ x ∧ x ≤ M) (hM : 0 ≤ M) : -1 ≤ at1 xs k ∧ at1 xs k ≤ M := by
  unfold at1
  rw [List.getD_eq_getElem?_getD]
  cases hx : xs[k]? with
  | none => exact ⟨by simp, hM⟩
  | some x => exact h x (List.mem_of_getElem? hx)
theorem lon_no {ns ls : List Q4} {ws : List Int} {f t : Int} (h : lonOk ns ls ws = false) : lonE ns ls ws f t = 1 ∧ lonV ns ls ws f t = 0 := by
  have e : lonE ns ls ws f t = 1 := by unfold lonE; rw [h]; rfl
  exact ⟨e, by unfold lonV; rw [e]; rfl⟩
theorem lon_miss {ns ls : List Q4} {ws : List Int} {f t : Int} (h : lonOk ns ls ws = true) (h2 : placeI ns f < 0 ∨ placeI ns t < 0) : lonE ns ls ws f t = 7 ∧ lonV ns ls ws f t = 0 := by
  have e : lonE ns ls ws f t = 7 := by
    unfold lonE
    rw [h]
    rcases h2 with h2 | h2
    · rw [decide_eq_true h2]; rfl
    · rw [decide_eq_true h2, Bool.or_true]; rfl
  exact ⟨e, by unfold lonV; rw [e]; rfl⟩
theorem lon_none {ns ls : List Q4} {ws : List Int} {f t : Int} (h : lonOk ns ls ws = true) (h1 : 0 ≤ placeI ns f) (h2 : 0 ≤ placeI ns t) (h3 : at1 (lonR ns ls ws (placeI ns f)) (placeI ns t).toNat < 0) : lonE ns ls ws f t = 13 ∧ lonV ns ls ws f t = 0 := by
  have e : lonE ns ls ws f t = 13 := by
    unfold lonE
    rw [h, decide_eq_false (show ¬ placeI ns f < 0 by omega), decide_eq_false (show ¬ placeI ns t < 0 by omega), decide_eq_true h3]; rfl
  exact ⟨e, by unfold lonV; rw [e]; rfl⟩
theorem lon_is {ns ls : List Q4} {ws : List Int} {f t : Int} (h : lonOk ns ls ws = true) (h1 : 0 ≤ placeI ns f) (h2 : 0 ≤ placeI ns t) (h3 : 0 ≤ at1 (lonR ns ls ws (placeI ns f)) (placeI ns t).toNat) : lonE ns ls ws f t = 0 ∧ lonV ns ls ws f t = at1 (lonR ns ls ws (placeI ns f)) (placeI ns t).toNat := by
  have e : lonE ns ls ws f t = 0 := by
    unfold lonE
    rw [h, decide_eq_false (show ¬ placeI ns f < 0 by omega), decide_eq_false (show ¬ placeI ns t < 0 by omega), decide_eq_false (show ¬ at1 (lonR ns ls ws (placeI ns f)) (placeI ns t).toNat < 0 by omega)]; rfl
  exact ⟨e, by unfold lonV; rw [e]; rfl⟩
theorem lonOk_no {ns ls : List Q4} {ws : List Int} (h : validS ns ls = false ∨ ((ws.length : Int) == (ns.length : Int)) = false ∨ ws.all costB = false) : lonOk ns ls ws = false := by
  unfold lonOk
  rcases h with h | h | h <;> rw [h] <;> simp
theorem lonOk_yes {ns ls : List Q4} {ws : List Int} (h1 : validS ns ls = true) (h2 : ((ws.length : Int) == (ns.length : Int)) = true) (h3 : ws.all costB = true) : lonOk ns ls ws = true := by
  unfold lonOk
  rw [h1, h2, h3]; rfl
theorem costs_of {ws : List Int} (h : ws.all costB = true) : ∀ c ∈ ws, 0 ≤ c ∧ c ≤ 1099511627776 := fun c hc => by
  have := List.all_eq_true.1 h c hc
  simpa [costB] using this
theorem place_lt (ns : List Q4) (i : Int) : placeI ns i = -1 ∨ (0 ≤ placeI ns i ∧ placeI ns i < ns.length) := by
  have := fIx_range (p := fun z : Q4 => z.1 == i) ns 0
  unfold placeI; omega

theorem lonL_yes {ns : List Q4} {ws xs : List Int} {z mm : Int} {l : Q4} (h1 : (l.2.2.1 == z) = true) (h2 : decide (0 ≤ at1 xs (placeI ns l.1).toNat) = true) (h3 : mm = maxI (at1 xs (placeI ns z).toNat) (at1 xs (placeI ns l.1).toNat + at1 ws (placeI ns z).toNat)) : lonL ns ws z xs l = xs.set (placeI ns z).toNat mm := by
  unfold lonL
  rw [h1, h2, h3]; rfl
theorem lonL_no1 {ns : List Q4} {ws xs : List Int} {z : Int} {l : Q4} (h1 : (l.2.2.1 == z) = false) : lonL ns ws z xs l = xs := by
  unfold lonL
  rw [h1]; rfl
theorem lonL_no2 {ns : List Q4} {ws xs : List Int} {z : Int} {l : Q4} (h2 : decide (0 ≤ at1 xs (placeI ns l.1).toNat) = false) : lonL ns ws z xs l = xs := by
  unfold lonL
  rw [h2, Bool.and_false]; rfl
theorem fill_step {xs : List Int} {k n : Nat} {v : Int} (hl : xs.length = n) (hk : k < n) (h : ∀ j, j < k → xs[j]? = some v) : ∀ j, j < k + 1 → (xs.set k v)[j]? = some v := fun j hj => by
  rw [List.getElem?_set]
  split
  · rw [if_pos (by omega)]
  · exact h j (by omega)

set_option maxRecDepth 10000 in
set_option maxHeartbeats 4000000 in
theorem longest_ref (a b : Option Addr) (ca cb : Nat) (ns ls : List Q4) (c : Option Addr) (cc : Nat) (ws : List Int) (f t : Int) (w : World) (hn : Sl [] enc4 4 w a ca ns) (hl : Sl [] enc4 4 w b cb ls) (hc : Sl [] enc1 1 w c cc ws) : Calls Try.prog 23 [.agg #[.slice a ns.length ca, .slice b ls.length cb], .slice c ws.length cc, .int .i64 f, .int .i64 t].toArray w (Val (.tuple #[.int .i64 (lonV ns ls ws f t), .int .i64 (lonE ns ls ws f t)]) w) := by
  refine calls_body (n := 158) Try.func23 rfl rfl rfl (St.init _ []) ?_
  refine cd_seq ?_
  refine cd_region ?_
  refine at_does (does_box rfl .agg (fun _ => .nil)) rfl (fun g1 => ?_)
  refine at_pure (pv_assign rfl) rfl ?_
  refine at_pure (pv_assign rfl) rfl ?_
  refine at_nil ?_
  refine ex_go ?_
  refine cd_seq ?_
  refine cd_seq ?_
  refine cd_region ?_
  refine at_pure (by exact pv_loads_box ag_28 rfl .z (.take (.take .done))) rfl ?_
  refine at_does (does_val cal58 rfl rfl rfl (fun w hs => valid_ref _ _ _ _ _ _ w (hn.at' hs) (hl.at' hs))) rfl (fun _ => ?_)
  refine at_pure (pv_not rfl) rfl ?_
  refine at_pure (pv_move rfl) rfl ?_
  refine at_split 24 rfl (fun hb1 => ?_) (fun hb1 => ?_)
  · skip
    refine at_skip rfl rfl hb1 rfl ?_
    refine at_skip rfl rfl hb1 rfl ?_
    refine at_skip rfl rfl hb1 rfl ?_
    refine at_skip rfl rfl hb1 rfl ?_
    refine at_skip rfl rfl hb1 rfl ?_
    refine at_skip rfl rfl hb1 rfl ?_
    refine at_pure (pv_pick_t rfl hb1 rfl) rfl ?_
    refine at_nil ?_
    refine ex_go ?_
    refine cd_then rfl rfl ?_
    refine cd_seq ?_
    refine cd_region ?_
    refine at_pure (pv_assign rfl) rfl ?_
    refine at_pure (pv_assign rfl) rfl ?_
    refine at_nil ?_
    refine ex_go ?_
    refine cd_ret ?_
    refine ex_then_ret ?_
    exact end_ret2 rfl rfl rfl (fun w hs => ⟨by clear hs; first | (rw [hm.1, hm.2]; done) | (rw [hlast.1, hlast.2]; done) | (have h9 : lonE ns ls ws f t = 1 ∧ lonV ns ls ws f t = 0 := lon_no (lonOk_no (.inl (by simpa using hb1))); rw [h9.1, h9.2]; done) | (have h9 : lonE ns ls ws f t = 1 ∧ lonV ns ls ws f t = 0 := lon_no (lonOk_no (.inr (.inl (bne_t hb2)))); rw [h9.1, h9.2]; done) | (have h9 : lonE ns ls ws f t = 1 ∧ lonV ns ls ws f t = 0 := lon_no (lonOk_no (.inr (.inr (all_hit hz (costB_no (by simp only [decide_eq_true_eq] at *; omega)))))); rw [h9.1, h9.2]; done), hs.keep⟩)
  · skip
    refine at_pure_g rfl rfl hb1 (pv_move rfl) rfl ?_
    refine at_pure_g rfl rfl hb1 (pv_len Try.underlying22 rfl) rfl ?_
    refine at_pure_g rfl rfl hb1 (pv_field0 fa_28_0 rfl (r := 0) rfl) rfl ?_
    refine at_pure_g rfl rfl hb1 (by exact pv_load ld_25 rfl (box_cell .z .z)) rfl ?_
    refine at_pure_g rfl rfl hb1 (pv_len Try.underlying25 rfl) rfl ?_
    refine at_pure_g rfl rfl hb1 (pv_neq rfl rfl) rfl ?_
    refine at_pure (pv_pick_f rfl hb1 rfl) rfl ?_
    refine at_nil ?_
    refine ex_go ?_
    refine cd_if rfl (fun hb2 => ?_) (fun hb2 => ?_)
    · skip
      refine cd_seq ?_
      refine cd_region ?_
      refine at_pure (pv_assign rfl) rfl ?_
      refine at_pure (pv_assign rfl) rfl ?_
      refine at_nil ?_
      refine ex_go ?_
      refine cd_ret ?_
      refine ex_then_ret ?_
      exact end_ret2 rfl rfl rfl (fun w hs => ⟨by clear hs; first | (rw [hm.1, hm.2]; done) | (rw [hlast.1, hlast.2]; done) | (have h9 : lonE ns ls ws f t = 1 ∧ lonV ns ls ws f t = 0 := lon_no (lonOk_no (.inl (by simpa using hb1))); rw [h9.1, h9.2]; done) | (have h9 : lonE ns ls ws f t = 1 ∧ lonV ns ls ws f t = 0 := lon_no (lonOk_no (.inr (.inl (bne_t hb2)))); rw [h9.1, h9.2]; done) | (have h9 : lonE ns ls ws f t = 1 ∧ lonV ns ls ws f t = 0 := lon_no (lonOk_no (.inr (.inr (all_hit hz (costB_no (by simp only [decide_eq_true_eq] at *; omega)))))); rw [h9.1, h9.2]; done), hs.keep⟩)
    · skip
      refine cd_skip ?_
      refine ex_go ?_
      refine cd_seq ?_
      refine cd_seq ?_
      have q1 : validS ns ls = true := by simpa using hb1
      have q2 : ((ws.length : Int) == (ns.length : Int)) = true := bne_f hb2
      clear hb1 hb2
      refine cd_region ?_
      refine at_pure (pv_assign rfl) rfl ?_
      refine at_nil ?_
      refine ex_go ?_
      refine cd_block ?_
      refine cd_loop (σ := Nat) (fun s => [(1, .slice c ws.length cc), (2, .int .i64 f), (3, .int .i64 t), (4, Value.pointer (some ⟨g1, 0, none⟩)), (10, .int .i64 (s : Int))]) (fun s => [Box g1 [.slice a ns.length ca, .slice b ls.length cb] 28]) (fun s => s ≤ ws.length ∧ ws.all costB = (ws.drop s).all costB) (fun s => ws.length - s) 0 ⟨Nat.zero_le _, rfl⟩ ⟨rfl, rfl, rfl, rfl, rfl, trivial⟩ (by repeat first | exact List.nil_sublist _ | apply List.Sublist.cons_cons | apply List.Sublist.cons) ?_
      rintro k ⟨hk, hq⟩
      refine cd_seq ?_
      refine cd_seq ?_
      refine cd_region ?_
      refine at_pure (pv_move rfl) rfl ?_
      refine at_pure (pv_move rfl) rfl ?_
      refine at_pure (pv_len Try.underlying22 rfl) rfl ?_
      refine at_pure (pv_lss rfl rfl) rfl ?_
      refine at_nil ?_
      refine ex_go ?_
      refine cd_if rfl (fun hlt => ?_) (fun hlt => ?_)
      · skip
        refine cd_skip ?_
        refine ex_go ?_
        refine cd_seq ?_
        refine cd_block ?_
        refine cd_seq ?_
        have hkl : k < ws.length := by simpa using hlt
        obtain ⟨z, hz⟩ := get_of hkl
        have hsm := hc.sm
        refine cd_region ?_
        refine at_pure (pv_move rfl) rfl ?_
        refine at_pure (pv_move rfl) rfl ?_
        refine at_pure (pv_ix Try.underlying22 cz_3 rfl rfl (by first | omega | (simp only [decide_eq_true_eq] at *; omega)) hc.real (k := k) (by omega)) rfl ?_
        refine at_pure (pv_elem0 ld_3 rfl (hc.get hz .z)) rfl ?_
        refine at_pure (pv_lss rfl rfl) rfl ?_
        refine at_pure (pv_move rfl) rfl ?_
        refine at_split 43 rfl (fun hb4 => ?_) (fun hb4 => ?_)
        · skip
          refine at_skip rfl rfl hb4 rfl ?_
          refine at_skip rfl rfl hb4 rfl ?_
          refine at_skip rfl rfl hb4 rfl ?_
          refine at_skip rfl rfl hb4 rfl ?_
          refine at_skip rfl rfl hb4 rfl ?_
          refine at_pure (pv_pick_t rfl hb4 rfl) rfl ?_
          refine at_nil ?_
          refine ex_go ?_
          refine cd_then rfl rfl ?_
          refine cd_seq ?_
          refine cd_region ?_
          refine at_pure (pv_assign rfl) rfl ?_
          refine at_pure (pv_assign rfl) rfl ?_
          refine at_nil ?_
          refine ex_go ?_
          refine cd_ret ?_
          refine ex_in_ret (ex_then_ret (ex_then_ret (ex_in_ret (ex_then_ret ?_))))
          exact end_ret2 rfl rfl rfl (fun w hs => ⟨by clear hs; first | (rw [hm.1, hm.2]; done) | (rw [hlast.1, hlast.2]; done) | (have h9 : lonE ns ls ws f t = 1 ∧ lonV ns ls ws f t = 0 := lon_no (lonOk_no (.inl (by simpa using hb1))); rw [h9.1, h9.2]; done) | (have h9 : lonE ns ls ws f t = 1 ∧ lonV ns ls ws f t = 0 := lon_no (lonOk_no (.inr (.inl (bne_t hb2)))); rw [h9.1, h9.2]; done) | (have h9 : lonE ns ls ws f t = 1 ∧ lonV ns ls ws f t = 0 := lon_no (lonOk_no (.inr (.inr (all_hit hz (costB_no (by simp only [decide_eq_true_eq] at *; omega)))))); rw [h9.1, h9.2]; done), hs.keep⟩)
        · skip
          refine at_pure_g rfl rfl hb4 (pv_move rfl) rfl ?_
          refine at_pure_g rfl rfl hb4 (pv_move rfl) rfl ?_
          refine at_pure_g rfl rfl hb4 (pv_ix Try.underlying22 cz_3 rfl rfl (by first | omega | (simp only [decide_eq_true_eq] at *; omega)) hc.real (k := k) (by omega)) rfl ?_
          refine at_pure_g rfl rfl hb4 (pv_elem0 ld_3 rfl (hc.get hz .z)) rfl ?_
          refine at_pure_g rfl rfl hb4 (pv_gtr rfl rfl) rfl ?_
          refine at_pure (pv_pick_f rfl hb4 rfl) rfl ?_
          refine at_nil ?_
          refine ex_go ?_
          refine cd_if rfl (fun hb5 => ?_) (fun hb5 => ?_)
          · skip
            refine cd_seq ?_
            refine cd_region ?_
            refine at_pure (pv_assign rfl) rfl ?_
            refine at_pure (pv_assign rfl) rfl ?_
            refine at_nil ?_
            refine ex_go ?_
            refine cd_ret ?_
            refine ex_in_ret (ex_then_ret (ex_then_ret (ex_in_ret (ex_then_ret ?_))))
            exact end_ret2 rfl rfl rfl (fun w hs => ⟨by clear hs; first | (rw [hm.1, hm.2]; done) | (rw [hlast.1, hlast.2]; done) | (have h9 : lonE ns ls ws f t = 1 ∧ lonV ns ls ws f t = 0 := lon_no (lonOk_no (.inl (by simpa using hb1))); rw [h9.1, h9.2]; done) | (have h9 : lonE ns ls ws f t = 1 ∧ lonV ns ls ws f t = 0 := lon_no (lonOk_no (.inr (.inl (bne_t hb2)))); rw [h9.1, h9.2]; done) | (have h9 : lonE ns ls ws f t = 1 ∧ lonV ns ls ws f t = 0 := lon_no (lonOk_no (.inr (.inr (all_hit hz (costB_no (by simp only [decide_eq_true_eq] at *; omega)))))); rw [h9.1, h9.2]; done), hs.keep⟩)
          · skip
            refine cd_skip ?_
            refine ex_in_normal (ex_go ?_)
            refine cd_region ?_
            refine at_pure (pv_move rfl) rfl ?_
            refine at_pure (by first | exact pv_add_n rfl rfl (by unfold In64; omega) | exact pv_add rfl rfl) rfl ?_
            refine at_pure (pv_assign rfl) rfl ?_
            refine at_nil ?_
            exact ex_meet (k + 1) ⟨⟨by omega, all_step hq hz (costB_of (by assumption) (by assumption))⟩, by omega⟩ ⟨rfl, rfl, rfl, rfl, rfl, trivial⟩ (by repeat first | exact List.nil_sublist _ | apply List.Sublist.cons_cons | apply List.Sublist.cons)
      · skip
        refine cd_exit ?_
        refine ex_then_exit (ex_then_exit (ex_in (ex_go ?_)))
        refine cd_seq ?_
        have hcs := costs_of (all_end hq (by simp at hlt; omega))
        have hok : lonOk ns ls ws = true := lonOk_yes q1 q2 (all_end hq (by simp at hlt; omega))
        clear hq
        have hwl : ws.length = ns.length := by have := beq_iff_eq.1 q2; omega
        have hpf := place_lt ns f
        have hpt := place_lt ns t
        refine cd_draw' 6 follows ?_
        refine dr_take 0 rfl (by kernel_rfl) (by first | exact List.Sublist.refl _ | (repeat first | exact List.Sublist.slnil | exact List.nil_sublist _ | apply List.Sublist.cons_cons | apply List.Sublist.cons)) (by exact pv_loads_box ag_28 rfl .z (.take (.take .done))) rfl ?_
        refine dr_take 1 rfl (by kernel_rfl) (by first | exact List.Sublist.refl _ | (repeat first | exact List.Sublist.slnil | exact List.nil_sublist _ | apply List.Sublist.cons_cons | apply List.Sublist.cons)) (pv_move rfl) rfl ?_
        refine dr_take 3 rfl (by kernel_rfl) (by first | exact List.Sublist.refl _ | (repeat first | exact List.Sublist.slnil | exact List.nil_sublist _ | apply List.Sublist.cons_cons | apply List.Sublist.cons)) (by exact pv_loads_box ag_28 rfl .z (.take (.take .done))) rfl ?_
        refine dr_take 4 rfl (by kernel_rfl) (by first | exact List.Sublist.refl _ | (repeat first | exact List.Sublist.slnil | exact List.nil_sublist _ | apply List.Sublist.cons_cons | apply List.Sublist.cons)) (pv_move rfl) rfl ?_
        refine dr_one 2 (by kernel_rfl) rfl ?_
        refine at_does (does_val cal59 rfl rfl rfl (fun w hs => place_26 a b ca cb ns ls _ w (hn.at' hs) (hl.at' hs))) rfl (fun _ => ?_)
        refine at_nil (dr_next (fun _ => (by first | exact List.Sublist.refl _ | (repeat first | exact List.Sublist.slnil | exact List.nil_sublist _ | apply List.Sublist.cons_cons | apply List.Sublist.cons))) ?_)
        refine dr_one 5 (by kernel_rfl) rfl ?_
        refine at_does (does_val cal59 rfl rfl rfl (fun w hs => place_26 a b ca cb ns ls _ w (hn.at' hs) (hl.at' hs))) rfl (fun _ => ?_)
        refine at_nil (dr_next (fun _ => (by first | exact List.Sublist.refl _ | (repeat first | exact List.Sublist.slnil | exact List.nil_sublist _ | apply List.Sublist.cons_cons | apply List.Sublist.cons))) ?_)
        refine dr_one 6 (by kernel_rfl) rfl ?_
        refine at_pure (pv_assign rfl) rfl ?_
        refine at_nil (dr_next (fun h => by cases h) ?_)
        refine dr_one 7 (by kernel_rfl) rfl ?_
        refine at_pure (pv_assign rfl) rfl ?_
        refine at_nil (dr_next (fun h => by cases h) ?_)
        refine dr_done (by kernel_rfl) ?_
        refine ex_go ?_
        refine cd_seq ?_
        refine cd_seq ?_
        refine cd_region ?_
        refine at_pure (pv_move rfl) rfl ?_
        refine at_pure (pv_lss rfl rfl) rfl ?_
        refine at_pure (pv_move rfl) rfl ?_
        refine at_split 58 rfl (fun hb6 => ?_) (fun hb6 => ?_)
        · skip
          refine at_skip rfl rfl hb6 rfl ?_
          refine at_skip rfl rfl hb6 rfl ?_
          refine at_pure (pv_pick_t rfl hb6 rfl) rfl ?_
          refine at_nil ?_
          refine ex_go ?_
          refine cd_then rfl rfl ?_
          refine cd_seq ?_
          have hm := lon_miss (f := f) (t := t) hok (by simp only [decide_eq_true_eq] at *; omega)
          refine cd_region ?_
          refine at_pure (pv_assign rfl) rfl ?_
          refine at_pure (pv_assign rfl) rfl ?_
          refine at_nil ?_
          refine ex_go ?_
          refine cd_ret ?_
          refine ex_then_ret ?_
          exact end_ret2 rfl rfl rfl (fun w hs => ⟨by clear hs; first | (rw [hm.1, hm.2]; done) | (rw [hlast.1, hlast.2]; done) | (have h9 : lonE ns ls ws f t = 1 ∧ lonV ns ls ws f t = 0 := lon_no (lonOk_no (.inl (by simpa using hb1))); rw [h9.1, h9.2]; done) | (have h9 : lonE ns ls ws f t = 1 ∧ lonV ns ls ws f t = 0 := lon_no (lonOk_no (.inr (.inl (bne_t hb2)))); rw [h9.1, h9.2]; done) | (have h9 : lonE ns ls ws f t = 1 ∧ lonV ns ls ws f t = 0 := lon_no (lonOk_no (.inr (.inr (all_hit hz (costB_no (by simp only [decide_eq_true_eq] at *; omega)))))); rw [h9.1, h9.2]; done), hs.keep⟩)
        · skip
          refine at_pure_g rfl rfl hb6 (pv_move rfl) rfl ?_
          refine at_pure_g rfl rfl hb6 (pv_lss rfl rfl) rfl ?_
          refine at_pure (pv_pick_f rfl hb6 rfl) rfl ?_
          refine at_nil ?_
          refine ex_go ?_
          refine cd_if rfl (fun hb7 => ?_) (fun hb7 => ?_)
          · skip
            refine cd_seq ?_
            have hm := lon_miss (f := f) (t := t) hok (by simp only [decide_eq_true_eq] at *; omega)
            refine cd_region ?_
            refine at_pure (pv_assign rfl) rfl ?_
            refine at_pure (pv_assign rfl) rfl ?_
            refine at_nil ?_
            refine ex_go ?_
            refine cd_ret ?_
            refine ex_then_ret ?_
            exact end_ret2 rfl rfl rfl (fun w hs => ⟨by clear hs; first | (rw [hm.1, hm.2]; done) | (rw [hlast.1, hlast.2]; done) | (have h9 : lonE ns ls ws f t = 1 ∧ lonV ns ls ws f t = 0 := lon_no (lonOk_no (.inl (by simpa using hb1))); rw [h9.1, h9.2]; done) | (have h9 : lonE ns ls ws f t = 1 ∧ lonV ns ls ws f t = 0 := lon_no (lonOk_no (.inr (.inl (bne_t hb2)))); rw [h9.1, h9.2]; done) | (have h9 : lonE ns ls ws f t = 1 ∧ lonV ns ls ws f t = 0 := lon_no (lonOk_no (.inr (.inr (all_hit hz (costB_no (by simp only [decide_eq_true_eq] at *; omega)))))); rw [h9.1, h9.2]; done), hs.keep⟩)
          · skip
            refine cd_skip ?_
            refine ex_go ?_
            refine cd_seq ?_
            have hvf := valid_facts q1
            have hvg := (valid_iff ns ls).1 q1
            have hgo := (good_order ls hvg.nd).1
            have hpf0 : 0 ≤ placeI ns f ∧ placeI ns f < ns.length := by simp only [decide_eq_false_iff_not] at *; omega
            have hpt0 : 0 ≤ placeI ns t ∧ placeI ns t < ns.length := by simp only [decide_eq_false_iff_not] at *; omega
            refine cd_region ?_
            refine at_pure (by exact pv_loads_box ag_28 rfl .z (.take (.take .done))) rfl ?_
            refine at_does (does_gives (X := Option Addr × Nat) (val := fun z => .tuple #[.slice z.1 (orderS ns ls).length z.2, .int .i64 0]) (Δ := fun z => [RowP enc1 1 3 z.1 z.2 (orderS ns ls)]) cal38 rfl rfl rfl (fun w hs => by have h9 := order2_ok a b ca cb w (hn.at' hs) (hl.at' hs) q1; exact h9) (fun _ => (.cons .nil))) rfl (fun z0 => ?_)
            refine at_pure (pv_move rfl) rfl ?_
            refine at_pure (pv_extract rfl rfl) rfl ?_
            refine at_pure (pv_extract rfl rfl) rfl ?_
            refine at_pure (pv_assign rfl) rfl ?_
            refine at_pure (pv_assign rfl) rfl ?_
            refine at_nil ?_
            refine ex_go ?_
            refine cd_seq ?_
            refine Cd.know (fun w hs => (hs.rows len1 (by decide) (.s .z)).real) (fun hreal => ?_)
            refine cd_region ?_
            refine at_pure (pv_field0 fa_28_0 rfl (r := 0) rfl) rfl ?_
            refine at_pure (by exact pv_load ld_25 rfl (box_cell .z .z)) rfl ?_
            refine at_pure (pv_len Try.underlying25 rfl) rfl ?_
            refine at_does (does_make (enc := enc1) (z0 := (0 : Int)) (v0 := .int .i64 0) rfl Try.underlying22 mk_3 (by decide) rfl rfl (by omega) (fun _ => (.cons (.cons .nil)))) rfl (fun gs => ?_)
            refine at_pure (pv_assign rfl) rfl ?_
            refine at_nil ?_
            refine ex_go ?_
            refine cd_seq ?_
            refine cd_seq ?_
            refine cd_region ?_
            refine at_pure (pv_assign rfl) rfl ?_
            refine at_nil ?_
            refine ex_go ?_
            refine cd_block ?_
            refine cd_loop (σ := Nat × List Int) (fun s => [(1, .slice c ws.length cc), (4, Value.pointer (some ⟨g1, 0, none⟩)), (11, .int .i64 (placeI ns f)), (12, .int .i64 (placeI ns t)), (13, .slice z0.1 (orderS ns ls).length z0.2), (15, .slice (some ⟨gs, 0, none⟩) ns.length ns.length), (16, .int .i64 (s.1 : Int))]) (fun s => [Box g1 [.slice a ns.length ca, .slice b ls.length cb] 28, RowP enc1 1 3 z0.1 z0.2 (orderS ns ls), RowP enc1 1 3 (some ⟨gs, 0, none⟩) ns.length s.2]) (fun s => s.1 ≤ ns.length ∧ s.2.length = ns.length ∧ ∀ j, j < s.1 → s.2[j]? = some (-1)) (fun s => ns.length - s.1) (0, List.replicate ns.length 0) ⟨Nat.zero_le _, by simp, by simp⟩ ⟨rfl, rfl, rfl, rfl, rfl, rfl, rfl, trivial⟩ (by repeat first | exact List.nil_sublist _ | apply List.Sublist.cons_cons | apply List.Sublist.cons) ?_
            rintro ⟨k, xs⟩ ⟨hk, hxl, hq⟩
            dsimp only at hk hxl hq ⊢
            refine cd_seq ?_
            refine cd_seq ?_
            refine cd_region ?_
            refine at_pure (pv_move rfl) rfl ?_
            refine at_pure (pv_move rfl) rfl ?_
            refine at_pure (pv_len Try.underlying22 rfl) rfl ?_
            refine at_pure (pv_lss rfl rfl) rfl ?_
            refine at_nil ?_
            refine ex_go ?_
            refine cd_if rfl (fun hlt1 => ?_) (fun hlt1 => ?_)
            · skip
              refine cd_skip ?_
              refine ex_go ?_
              refine cd_seq ?_
              refine cd_block ?_
              have hkl : k < ns.length := by simpa using hlt1
              obtain ⟨x0, hx0⟩ := get_of (xs := xs) (k := k) (by omega)
              refine cd_region ?_
              refine at_pure (pv_move rfl) rfl ?_
              refine at_pure (pv_move rfl) rfl ?_
              refine at_pure (pv_ix Try.underlying22 cz_3 rfl rfl (by first | omega | (simp only [decide_eq_true_eq] at *; omega)) (.inr rfl) (k := k) (by omega)) rfl ?_
              refine at_turns (by exact turns_put (z' := (-1 : Int)) (k := k) (q := 0) len1 sz_3 rfl rfl rfl (.one rfl) rfl rfl (.s (.s .z)) hx0 rfl (Nat.le_of_ble_eq_true rfl) (.s (.s .z))) ?_
              refine at_nil ?_
              refine ex_in_normal (ex_go ?_)
              refine cd_region ?_
              refine at_pure (pv_move rfl) rfl ?_
              refine at_pure (by first | exact pv_add_n rfl rfl (by unfold In64; omega) | exact pv_add rfl rfl) rfl ?_
              refine at_pure (pv_assign rfl) rfl ?_
              refine at_nil ?_
              exact ex_meet (k + 1, xs.set k (-1)) ⟨⟨by dsimp only; omega, by dsimp only; rw [List.length_set]; exact hxl, fill_step hxl hkl hq⟩, by dsimp only; omega⟩ ⟨rfl, rfl, rfl, rfl, rfl, rfl, rfl, trivial⟩ (by repeat first | exact List.nil_sublist _ | apply List.Sublist.cons_cons | apply List.Sublist.cons)
            · skip
              refine cd_exit ?_
              refine ex_then_exit (ex_then_exit (ex_in (ex_go ?_)))
              refine cd_seq ?_
              have hfill : xs = List.replicate ns.length (-1) := rep_of hxl (fun j hj => hq j (by simp at hlt1; omega))
              subst hfill
              have hat := at1_get (xs := ws) (k := (placeI ns f).toNat) (by omega)
              have hat2 := at1_get (xs := List.replicate ns.length (-1)) (k := (placeI ns f).toNat) (by simp; omega)
              have hwb := at1_bound (k := (placeI ns f).toNat) hcs (by omega)
              refine cd_region ?_
              refine at_pure (pv_move rfl) rfl ?_
              refine at_pure (pv_move rfl) rfl ?_
              refine at_pure (pv_move rfl) rfl ?_
              refine at_pure (pv_move rfl) rfl ?_
              refine at_pure (pv_ix Try.underlying22 cz_3 rfl rfl (by first | omega | (simp only [decide_eq_true_eq] at *; omega)) hc.real (k := (placeI ns f).toNat) (by omega)) rfl ?_
              refine at_pure (pv_elem0 ld_3 rfl (hc.get hat .z)) rfl ?_
              refine at_pure (pv_ix Try.underlying22 cz_3 rfl rfl (by first | omega | (simp only [decide_eq_true_eq] at *; omega)) (.inr rfl) (k := (placeI ns f).toNat) (by omega)) rfl ?_
              refine at_turns (by exact turns_put (z' := at1 ws (placeI ns f).toNat) (k := (placeI ns f).toNat) (q := 0) len1 sz_3 rfl rfl rfl (.one rfl) rfl rfl (.s (.s .z)) hat2 rfl (Nat.le_of_ble_eq_true rfl) (.s (.s .z))) ?_
              refine at_nil ?_
              refine ex_go ?_
              refine cd_seq ?_
              refine cd_seq ?_
              refine cd_region ?_
              refine at_pure (pv_assign rfl) rfl ?_
              refine at_nil ?_
              refine ex_go ?_
              refine cd_block ?_
              refine cd_loop (σ := Nat × List Int) (fun s => [(1, .slice c ws.length cc), (4, Value.pointer (some ⟨g1, 0, none⟩)), (11, .int .i64 (placeI ns f)), (12, .int .i64 (placeI ns t)), (13, .slice z0.1 (orderS ns ls).length z0.2), (15, .slice (some ⟨gs, 0, none⟩) ns.length ns.length), (17, .int .i64 (s.1 : Int))]) (fun s => [Box g1 [.slice a ns.length ca, .slice b ls.length cb] 28, RowP enc1 1 3 z0.1 z0.2 (orderS ns ls), RowP enc1 1 3 (some ⟨gs, 0, none⟩) ns.length s.2]) (fun s => s.1 ≤ (orderS ns ls).length ∧ s.2.length = ns.length ∧ lonR ns ls ws (placeI ns f) = ((orderS ns ls).drop s.1).foldl (lonO ns ls ws) s.2 ∧ (∀ x ∈ s.2, -1 ≤ x ∧ x ≤ ((s.1 * 256 + 1 : Int)) * 1099511627776)) (fun s => (orderS ns ls).length - s.1) (0, lonI ns ws (placeI ns f)) ⟨Nat.zero_le _, by simp [lonI], rfl, by intro x hx; dsimp only at hx ⊢; unfold lonI at hx; rcases List.mem_or_eq_of_mem_set hx with hx | hx; simp at hx; omega; omega⟩ ⟨rfl, rfl, rfl, rfl, rfl, rfl, rfl, trivial⟩ (by repeat first | exact List.nil_sublist _ | apply List.Sublist.cons_cons | apply List.Sublist.cons) ?_
              rintro ⟨k, sums⟩ ⟨hk, hsl, hq, hsb⟩
              dsimp only at hk hsl hq hsb ⊢
              have hk64 : k ≤ 64 := by have := hvf.1; have := hvf.2.2.2.2; omega
              refine cd_seq ?_
              refine cd_seq ?_
              refine cd_region ?_
              refine at_pure (pv_move rfl) rfl ?_
              refine at_pure (pv_move rfl) rfl ?_
              refine at_pure (pv_len Try.underlying22 rfl) rfl ?_
              refine at_pure (pv_lss rfl rfl) rfl ?_
              refine at_nil ?_
              refine ex_go ?_
              refine cd_if rfl (fun hlt2 => ?_) (fun hlt2 => ?_)
              · skip
                refine cd_skip ?_
                refine ex_go ?_
                refine cd_seq ?_
                refine cd_block ?_
                refine cd_seq ?_
                have hkl : k < (orderS ns ls).length := by simpa using hlt2
                obtain ⟨z, hz⟩ := get_of hkl
                have hzi : z ∈ ids ns := hgo.sub z (List.mem_of_getElem? hz)
                have hpl := place_in hzi
                refine cd_draw' 6 follows ?_
                refine dr_take 0 rfl (by kernel_rfl) (by first | exact List.Sublist.refl _ | (repeat first | exact List.Sublist.slnil | exact List.nil_sublist _ | apply List.Sublist.cons_cons | apply List.Sublist.cons)) (by exact pv_loads_box ag_28 rfl .z (.take (.take .done))) rfl ?_
                refine dr_take 1 rfl (by kernel_rfl) (by first | exact List.Sublist.refl _ | (repeat first | exact List.Sublist.slnil | exact List.nil_sublist _ | apply List.Sublist.cons_cons | apply List.Sublist.cons)) (pv_move rfl) rfl ?_
                refine dr_take 2 rfl (by kernel_rfl) (by first | exact List.Sublist.refl _ | (repeat first | exact List.Sublist.slnil | exact List.nil_sublist _ | apply List.Sublist.cons_cons | apply List.Sublist.cons)) (pv_move rfl) rfl ?_
                refine dr_take 3 rfl (by kernel_rfl) (by first | exact List.Sublist.refl _ | (repeat first | exact List.Sublist.slnil | exact List.nil_sublist _ | apply List.Sublist.cons_cons | apply List.Sublist.cons)) (pv_ix Try.underlying22 cz_3 rfl rfl (by first | omega | (simp only [decide_eq_true_eq] at *; omega)) hreal (k := k) (by omega)) rfl ?_
                refine dr_take 4 rfl (by kernel_rfl) (by first | exact List.Sublist.refl _ | (repeat first | exact List.Sublist.slnil | exact List.nil_sublist _ | apply List.Sublist.cons_cons | apply List.Sublist.cons)) (pv_elem0 ld_3 rfl (RowP.get len1 (by decide) (.s .z) hz .z)) rfl ?_
                refine dr_one 5 (by kernel_rfl) rfl ?_
                refine at_does (does_val cal59 rfl rfl rfl (fun w hs => place_26 a b ca cb ns ls _ w (hn.at' hs) (hl.at' hs))) rfl (fun _ => ?_)
                refine at_nil (dr_next (fun _ => (by first | exact List.Sublist.refl _ | (repeat first | exact List.Sublist.slnil | exact List.nil_sublist _ | apply List.Sublist.cons_cons | apply List.Sublist.cons))) ?_)
                refine dr_one 6 (by kernel_rfl) rfl ?_
                refine at_pure (pv_assign rfl) rfl ?_
                refine at_nil (dr_next (fun h => by cases h) ?_)
                refine dr_done (by kernel_rfl) ?_
                refine ex_go ?_
                refine cd_seq ?_
                refine cd_region ?_
                refine at_pure (pv_assign rfl) rfl ?_
                refine at_nil ?_
                refine ex_go ?_
                refine cd_block ?_
                refine cd_loop (σ := Nat × List Int) (fun s => [(1, .slice c ws.length cc), (4, Value.pointer (some ⟨g1, 0, none⟩)), (11, .int .i64 (placeI ns f)), (12, .int .i64 (placeI ns t)), (13, .slice z0.1 (orderS ns ls).length z0.2), (15, .slice (some ⟨gs, 0, none⟩) ns.length ns.length), (17, .int .i64 (k : Int)), (18, .int .i64 (placeI ns z)), (19, .int .i64 (s.1 : Int))]) (fun s => [Box g1 [.slice a ns.length ca, .slice b ls.length cb] 28, RowP enc1 1 3 z0.1 z0.2 (orderS ns ls), RowP enc1 1 3 (some ⟨gs, 0, none⟩) ns.length s.2]) (fun s => s.1 ≤ ls.length ∧ s.2.length = ns.length ∧ lonO ns ls ws sums z = (ls.drop s.1).foldl (lonL ns ws z) s.2 ∧ (∀ x ∈ s.2, -1 ≤ x ∧ x ≤ ((k * 256 + s.1 + 1 : Int)) * 1099511627776)) (fun s => ls.length - s.1) (0, sums) ⟨Nat.zero_le _, hsl, rfl, by intro x hx; have := hsb x hx; dsimp only; omega⟩ ⟨rfl, rfl, rfl, rfl, rfl, rfl, rfl, rfl, rfl, trivial⟩ (by repeat first | exact List.nil_sublist _ | apply List.Sublist.cons_cons | apply List.Sublist.cons) ?_
                rintro ⟨j, xs⟩ ⟨hj, hxl, hq2, hxb⟩
                dsimp only at hj hxl hq2 hxb ⊢
                refine cd_seq ?_
                refine cd_seq ?_
                refine cd_region ?_
                refine at_pure (pv_move rfl) rfl ?_
                refine at_pure (pv_field0 fa_28_1 rfl (r := 1) rfl) rfl ?_
                refine at_pure (by exact pv_load ld_26 rfl (box_cell .z (.s .z))) rfl ?_
                refine at_pure (pv_len Try.underlying26 rfl) rfl ?_
                refine at_pure (pv_lss rfl rfl) rfl ?_
                refine at_nil ?_
                refine ex_go ?_
                refine cd_if rfl (fun hlt3 => ?_) (fun hlt3 => ?_)
                · have hjl : j < ls.length := by simpa using hlt3
                  obtain ⟨y, hy⟩ := get_of hjl
                  have hyi := (ports_ends (hvg.port y (List.mem_of_getElem? hy))).1
                  have hpy := place_in hyi
                  have hay := at1_get (xs := xs) (k := (placeI ns y.1).toNat) (by omega)
                  have hab := at1_lo (k := (placeI ns y.1).toNat) hxb (by omega)
                  have haz := at1_get (xs := xs) (k := (placeI ns z).toNat) (by omega)
                  have hazb := at1_lo (k := (placeI ns z).toNat) hxb (by omega)
                  have hwz := at1_get (xs := ws) (k := (placeI ns z).toNat) (by omega)
                  have hwzb := at1_bound (k := (placeI ns z).toNat) hcs (by omega)
                  obtain ⟨mm, hmm⟩ : ∃ mm, mm = maxI (at1 xs (placeI ns z).toNat) (at1 xs (placeI ns y.1).toNat + at1 ws (placeI ns z).toNat) := ⟨_, rfl⟩
                  have hmmb : -1 ≤ mm ∧ mm ≤ ((k * 256 + j + 1 + 1 : Nat) : Int) * 1099511627776 := by rw [hmm]; exact maxI_le (by omega) (by omega)
                  refine cd_skip ?_
                  refine ex_go ?_
                  refine cd_seq ?_
                  refine cd_block ?_
                  refine cd_seq ?_
                  refine cd_draw' 8 follows ?_
                  refine dr_take 0 rfl (by kernel_rfl) (by first | exact List.Sublist.refl _ | (repeat first | exact List.Sublist.slnil | exact List.nil_sublist _ | apply List.Sublist.cons_cons | apply List.Sublist.cons)) (by exact pv_loads_box ag_28 rfl .z (.take (.take .done))) rfl ?_
                  refine dr_take 1 rfl (by kernel_rfl) (by first | exact List.Sublist.refl _ | (repeat first | exact List.Sublist.slnil | exact List.nil_sublist _ | apply List.Sublist.cons_cons | apply List.Sublist.cons)) (pv_field0 fa_28_1 rfl (r := 1) rfl) rfl ?_
                  refine dr_take 2 rfl (by kernel_rfl) (by first | exact List.Sublist.refl _ | (repeat first | exact List.Sublist.slnil | exact List.nil_sublist _ | apply List.Sublist.cons_cons | apply List.Sublist.cons)) (by exact pv_load ld_26 rfl (box_cell .z (.s .z))) rfl ?_
                  refine dr_take 3 rfl (by kernel_rfl) (by first | exact List.Sublist.refl _ | (repeat first | exact List.Sublist.slnil | exact List.nil_sublist _ | apply List.Sublist.cons_cons | apply List.Sublist.cons)) (pv_move rfl) rfl ?_
                  refine dr_take 4 rfl (by kernel_rfl) (by first | exact List.Sublist.refl _ | (repeat first | exact List.Sublist.slnil | exact List.nil_sublist _ | apply List.Sublist.cons_cons | apply List.Sublist.cons)) (pv_ix Try.underlying26 cz_61 rfl rfl (by first | omega | (simp only [decide_eq_true_eq] at *; omega)) hl.real (k := j) (by omega)) rfl ?_
                  refine dr_take 5 rfl (by kernel_rfl) (by first | exact List.Sublist.refl _ | (repeat first | exact List.Sublist.slnil | exact List.nil_sublist _ | apply List.Sublist.cons_cons | apply List.Sublist.cons)) (pv_fieldAddr fa_61_0 rfl) rfl ?_
                  refine dr_take 6 rfl (by kernel_rfl) (by first | exact List.Sublist.refl _ | (repeat first | exact List.Sublist.slnil | exact List.nil_sublist _ | apply List.Sublist.cons_cons | apply List.Sublist.cons)) (pv_elem ld_3 rfl (hl.get hy .z)) rfl ?_
                  refine dr_one 7 (by kernel_rfl) rfl ?_
                  refine at_does (does_val cal59 rfl rfl rfl (fun w hs => place_26 a b ca cb ns ls _ w (hn.at' hs) (hl.at' hs))) rfl (fun _ => ?_)
                  refine at_nil (dr_next (fun _ => (by first | exact List.Sublist.refl _ | (repeat first | exact List.Sublist.slnil | exact List.nil_sublist _ | apply List.Sublist.cons_cons | apply List.Sublist.cons))) ?_)
                  refine dr_one 8 (by kernel_rfl) rfl ?_
                  refine at_pure (pv_assign rfl) rfl ?_
                  refine at_nil (dr_next (fun h => by cases h) ?_)
                  refine dr_done (by kernel_rfl) ?_
                  refine ex_go ?_
                  refine cd_seq ?_
                  refine cd_draw' 18 follows ?_
                  refine dr_take 0 rfl (by kernel_rfl) (by first | exact List.Sublist.refl _ | (repeat first | exact List.Sublist.slnil | exact List.nil_sublist _ | apply List.Sublist.cons_cons | apply List.Sublist.cons)) (pv_field0 fa_28_1 rfl (r := 1) rfl) rfl ?_
                  refine dr_take 1 rfl (by kernel_rfl) (by first | exact List.Sublist.refl _ | (repeat first | exact List.Sublist.slnil | exact List.nil_sublist _ | apply List.Sublist.cons_cons | apply List.Sublist.cons)) (by exact pv_load ld_26 rfl (box_cell .z (.s .z))) rfl ?_
                  refine dr_take 2 rfl (by kernel_rfl) (by first | exact List.Sublist.refl _ | (repeat first | exact List.Sublist.slnil | exact List.nil_sublist _ | apply List.Sublist.cons_cons | apply List.Sublist.cons)) (pv_move rfl) rfl ?_
                  refine dr_take 3 rfl (by kernel_rfl) (by first | exact List.Sublist.refl _ | (repeat first | exact List.Sublist.slnil | exact List.nil_sublist _ | apply List.Sublist.cons_cons | apply List.Sublist.cons)) (pv_ix Try.underlying26 cz_61 rfl rfl (by first | omega | (simp only [decide_eq_true_eq] at *; omega)) hl.real (k := j) (by omega)) rfl ?_
                  refine dr_take 4 rfl (by kernel_rfl) (by first | exact List.Sublist.refl _ | (repeat first | exact List.Sublist.slnil | exact List.nil_sublist _ | apply List.Sublist.cons_cons | apply List.Sublist.cons)) (pv_fieldAddr fa_61_2 rfl) rfl ?_
                  refine dr_take 5 rfl (by kernel_rfl) (by first | exact List.Sublist.refl _ | (repeat first | exact List.Sublist.slnil | exact List.nil_sublist _ | apply List.Sublist.cons_cons | apply List.Sublist.cons)) (pv_elem ld_3 rfl (hl.get hy (.s (.s .z)))) rfl ?_
                  refine dr_take 6 rfl (by kernel_rfl) (by first | exact List.Sublist.refl _ | (repeat first | exact List.Sublist.slnil | exact List.nil_sublist _ | apply List.Sublist.cons_cons | apply List.Sublist.cons)) (pv_move rfl) rfl ?_
                  refine dr_take 7 rfl (by kernel_rfl) (by first | exact List.Sublist.refl _ | (repeat first | exact List.Sublist.slnil | exact List.nil_sublist _ | apply List.Sublist.cons_cons | apply List.Sublist.cons)) (pv_move rfl) rfl ?_
                  refine dr_take 8 rfl (by kernel_rfl) (by first | exact List.Sublist.refl _ | (repeat first | exact List.Sublist.slnil | exact List.nil_sublist _ | apply List.Sublist.cons_cons | apply List.Sublist.cons)) (pv_ix Try.underlying22 cz_3 rfl rfl (by first | omega | (simp only [decide_eq_true_eq] at *; omega)) hreal (k := k) (by omega)) rfl ?_
                  refine dr_take 9 rfl (by kernel_rfl) (by first | exact List.Sublist.refl _ | (repeat first | exact List.Sublist.slnil | exact List.nil_sublist _ | apply List.Sublist.cons_cons | apply List.Sublist.cons)) (pv_elem0 ld_3 rfl (RowP.get len1 (by decide) (.s .z) hz .z)) rfl ?_
                  refine dr_take 10 rfl (by kernel_rfl) (by first | exact List.Sublist.refl _ | (repeat first | exact List.Sublist.slnil | exact List.nil_sublist _ | apply List.Sublist.cons_cons | apply List.Sublist.cons)) (pv_eql rfl rfl) rfl ?_
                  refine dr_take 11 rfl (by kernel_rfl) (by first | exact List.Sublist.refl _ | (repeat first | exact List.Sublist.slnil | exact List.nil_sublist _ | apply List.Sublist.cons_cons | apply List.Sublist.cons)) (pv_move rfl) rfl ?_
                  refine dr_split 125 rfl (fun hb11 => ?_) (fun hb11 => ?_)
                  · skip
                    refine dr_take_g 12 rfl rfl rfl hb11 (by kernel_rfl) (by first | exact List.Sublist.refl _ | (repeat first | exact List.Sublist.slnil | exact List.nil_sublist _ | apply List.Sublist.cons_cons | apply List.Sublist.cons)) (pv_move rfl) rfl ?_
                    refine dr_take_g 13 rfl rfl rfl hb11 (by kernel_rfl) (by first | exact List.Sublist.refl _ | (repeat first | exact List.Sublist.slnil | exact List.nil_sublist _ | apply List.Sublist.cons_cons | apply List.Sublist.cons)) (pv_move rfl) rfl ?_
                    refine dr_take_g 14 rfl rfl rfl hb11 (by kernel_rfl) (by first | exact List.Sublist.refl _ | (repeat first | exact List.Sublist.slnil | exact List.nil_sublist _ | apply List.Sublist.cons_cons | apply List.Sublist.cons)) (pv_ix Try.underlying22 cz_3 rfl rfl (by first | omega | (simp only [decide_eq_true_eq] at *; omega)) (.inr rfl) (k := (placeI ns y.1).toNat) (by omega)) rfl ?_
                    refine dr_take_g 15 rfl rfl rfl hb11 (by kernel_rfl) (by first | exact List.Sublist.refl _ | (repeat first | exact List.Sublist.slnil | exact List.nil_sublist _ | apply List.Sublist.cons_cons | apply List.Sublist.cons)) (pv_elem0 ld_3 rfl (RowP.get len1 (by decide) (.s (.s .z)) hay .z)) rfl ?_
                    refine dr_take_g 16 rfl rfl rfl hb11 (by kernel_rfl) (by first | exact List.Sublist.refl _ | (repeat first | exact List.Sublist.slnil | exact List.nil_sublist _ | apply List.Sublist.cons_cons | apply List.Sublist.cons)) (pv_geq rfl rfl) rfl ?_
                    refine dr_take 17 rfl (by kernel_rfl) (by first | exact List.Sublist.refl _ | (repeat first | exact List.Sublist.slnil | exact List.nil_sublist _ | apply List.Sublist.cons_cons | apply List.Sublist.cons)) (pv_pick_t rfl hb11 rfl) rfl ?_
                    refine dr_done (by kernel_rfl) ?_
                    refine ex_go ?_
                    refine cd_if rfl (fun hb12 => ?_) (fun hb12 => ?_)
                    · skip
                      refine cd_draw' 17 follows ?_
                      refine dr_take 0 rfl (by kernel_rfl) (by first | exact List.Sublist.refl _ | (repeat first | exact List.Sublist.slnil | exact List.nil_sublist _ | apply List.Sublist.cons_cons | apply List.Sublist.cons)) (pv_move rfl) rfl ?_
                      refine dr_take 1 rfl (by kernel_rfl) (by first | exact List.Sublist.refl _ | (repeat first | exact List.Sublist.slnil | exact List.nil_sublist _ | apply List.Sublist.cons_cons | apply List.Sublist.cons)) (pv_move rfl) rfl ?_
                      refine dr_take 2 rfl (by kernel_rfl) (by first | exact List.Sublist.refl _ | (repeat first | exact List.Sublist.slnil | exact List.nil_sublist _ | apply List.Sublist.cons_cons | apply List.Sublist.cons)) (pv_move rfl) rfl ?_
                      refine dr_take 3 rfl (by kernel_rfl) (by first | exact List.Sublist.refl _ | (repeat first | exact List.Sublist.slnil | exact List.nil_sublist _ | apply List.Sublist.cons_cons | apply List.Sublist.cons)) (pv_move rfl) rfl ?_
                      refine dr_take 4 rfl (by kernel_rfl) (by first | exact List.Sublist.refl _ | (repeat first | exact List.Sublist.slnil | exact List.nil_sublist _ | apply List.Sublist.cons_cons | apply List.Sublist.cons)) (pv_ix Try.underlying22 cz_3 rfl rfl (by first | omega | (simp only [decide_eq_true_eq] at *; omega)) (.inr rfl) (k := (placeI ns z).toNat) (by omega)) rfl ?_
                      refine dr_take 5 rfl (by kernel_rfl) (by first | exact List.Sublist.refl _ | (repeat first | exact List.Sublist.slnil | exact List.nil_sublist _ | apply List.Sublist.cons_cons | apply List.Sublist.cons)) (pv_elem0 ld_3 rfl (RowP.get len1 (by decide) (.s (.s .z)) haz .z)) rfl ?_
                      refine dr_take 6 rfl (by kernel_rfl) (by first | exact List.Sublist.refl _ | (repeat first | exact List.Sublist.slnil | exact List.nil_sublist _ | apply List.Sublist.cons_cons | apply List.Sublist.cons)) (pv_move rfl) rfl ?_
                      refine dr_take 7 rfl (by kernel_rfl) (by first | exact List.Sublist.refl _ | (repeat first | exact List.Sublist.slnil | exact List.nil_sublist _ | apply List.Sublist.cons_cons | apply List.Sublist.cons)) (pv_move rfl) rfl ?_
                      refine dr_take 8 rfl (by kernel_rfl) (by first | exact List.Sublist.refl _ | (repeat first | exact List.Sublist.slnil | exact List.nil_sublist _ | apply List.Sublist.cons_cons | apply List.Sublist.cons)) (pv_ix Try.underlying22 cz_3 rfl rfl (by first | omega | (simp only [decide_eq_true_eq] at *; omega)) (.inr rfl) (k := (placeI ns y.1).toNat) (by omega)) rfl ?_
                      refine dr_take 9 rfl (by kernel_rfl) (by first | exact List.Sublist.refl _ | (repeat first | exact List.Sublist.slnil | exact List.nil_sublist _ | apply List.Sublist.cons_cons | apply List.Sublist.cons)) (pv_elem0 ld_3 rfl (RowP.get len1 (by decide) (.s (.s .z)) hay .z)) rfl ?_
                      refine dr_take 10 rfl (by kernel_rfl) (by first | exact List.Sublist.refl _ | (repeat first | exact List.Sublist.slnil | exact List.nil_sublist _ | apply List.Sublist.cons_cons | apply List.Sublist.cons)) (pv_move rfl) rfl ?_
                      refine dr_take 11 rfl (by kernel_rfl) (by first | exact List.Sublist.refl _ | (repeat first | exact List.Sublist.slnil | exact List.nil_sublist _ | apply List.Sublist.cons_cons | apply List.Sublist.cons)) (pv_move rfl) rfl ?_
                      refine dr_take 12 rfl (by kernel_rfl) (by first | exact List.Sublist.refl _ | (repeat first | exact List.Sublist.slnil | exact List.nil_sublist _ | apply List.Sublist.cons_cons | apply List.Sublist.cons)) (pv_ix Try.underlying22 cz_3 rfl rfl (by first | omega | (simp only [decide_eq_true_eq] at *; omega)) hc.real (k := (placeI ns z).toNat) (by omega)) rfl ?_
                      refine dr_take 13 rfl (by kernel_rfl) (by first | exact List.Sublist.refl _ | (repeat first | exact List.Sublist.slnil | exact List.nil_sublist _ | apply List.Sublist.cons_cons | apply List.Sublist.cons)) (pv_elem0 ld_3 rfl (hc.get hwz .z)) rfl ?_
                      refine dr_take 14 rfl (by kernel_rfl) (by first | exact List.Sublist.refl _ | (repeat first | exact List.Sublist.slnil | exact List.nil_sublist _ | apply List.Sublist.cons_cons | apply List.Sublist.cons)) (by first | exact pv_add_n rfl rfl (by unfold In64; omega) | exact pv_add rfl rfl) rfl ?_
                      refine dr_take 15 rfl (by kernel_rfl) (by first | exact List.Sublist.refl _ | (repeat first | exact List.Sublist.slnil | exact List.nil_sublist _ | apply List.Sublist.cons_cons | apply List.Sublist.cons)) (pv_max rfl rfl) rfl ?_
                      refine dr_take 16 rfl (by kernel_rfl) (by first | exact List.Sublist.refl _ | (repeat first | exact List.Sublist.slnil | exact List.nil_sublist _ | apply List.Sublist.cons_cons | apply List.Sublist.cons)) (pv_ix Try.underlying22 cz_3 rfl rfl (by first | omega | (simp only [decide_eq_true_eq] at *; omega)) (.inr rfl) (k := (placeI ns z).toNat) (by omega)) rfl ?_
                      refine dr_one 17 (by kernel_rfl) rfl ?_
                      refine at_turns (by exact turns_put (z' := maxI (at1 xs (placeI ns z).toNat) (at1 xs (placeI ns y.1).toNat + at1 ws (placeI ns z).toNat)) (k := (placeI ns z).toNat) (q := 0) len1 sz_3 rfl rfl rfl (.one rfl) rfl rfl (.s (.s .z)) haz rfl (Nat.le_of_ble_eq_true rfl) (.s (.s .z))) ?_
                      refine at_nil (dr_next (fun h => by cases h) ?_)
                      refine dr_done (by kernel_rfl) ?_
                      refine ex_in_normal (ex_go ?_)
                      refine cd_region ?_
                      refine at_pure (pv_move rfl) rfl ?_
                      refine at_pure (by first | exact pv_add_n rfl rfl (by unfold In64; omega) | exact pv_add rfl rfl) rfl ?_
                      refine at_pure (pv_assign rfl) rfl ?_
                      refine at_nil ?_
                      subst hmm
                      first | exact ex_meet (j + 1, xs.set (placeI ns z).toNat (maxI (at1 xs (placeI ns z).toNat) (at1 xs (placeI ns y.1).toNat + at1 ws (placeI ns z).toNat))) ⟨⟨by dsimp only; omega, by dsimp only; rw [List.length_set]; exact hxl, fold_step hq2 hy (lonL_yes (by assumption) (by assumption) rfl), by dsimp only; intro x hx; rcases List.mem_or_eq_of_mem_set hx with hx | hx; have := hxb x hx; omega; omega⟩, by dsimp only; omega⟩ ⟨rfl, rfl, rfl, rfl, rfl, rfl, rfl, rfl, rfl, trivial⟩ (by repeat first | exact List.nil_sublist _ | apply List.Sublist.cons_cons | apply List.Sublist.cons) | exact ex_meet (j + 1, xs) ⟨⟨by dsimp only; omega, hxl, fold_step hq2 hy (by first | exact lonL_no1 (by assumption) | exact lonL_no2 (by assumption)), by dsimp only; intro x hx; have := hxb x hx; omega⟩, by dsimp only; omega⟩ ⟨rfl, rfl, rfl, rfl, rfl, rfl, rfl, rfl, rfl, trivial⟩ (by repeat first | exact List.nil_sublist _ | apply List.Sublist.cons_cons | apply List.Sublist.cons)
                    · skip
                      refine cd_skip ?_
                      refine ex_in_normal (ex_go ?_)
                      refine cd_region ?_
                      refine at_pure (pv_move rfl) rfl ?_
                      refine at_pure (by first | exact pv_add_n rfl rfl (by unfold In64; omega) | exact pv_add rfl rfl) rfl ?_
                      refine at_pure (pv_assign rfl) rfl ?_
                      refine at_nil ?_
                      subst hmm
                      first | exact ex_meet (j + 1, xs.set (placeI ns z).toNat (maxI (at1 xs (placeI ns z).toNat) (at1 xs (placeI ns y.1).toNat + at1 ws (placeI ns z).toNat))) ⟨⟨by dsimp only; omega, by dsimp only; rw [List.length_set]; exact hxl, fold_step hq2 hy (lonL_yes (by assumption) (by assumption) rfl), by dsimp only; intro x hx; rcases List.mem_or_eq_of_mem_set hx with hx | hx; have := hxb x hx; omega; omega⟩, by dsimp only; omega⟩ ⟨rfl, rfl, rfl, rfl, rfl, rfl, rfl, rfl, rfl, trivial⟩ (by repeat first | exact List.nil_sublist _ | apply List.Sublist.cons_cons | apply List.Sublist.cons) | exact ex_meet (j + 1, xs) ⟨⟨by dsimp only; omega, hxl, fold_step hq2 hy (by first | exact lonL_no1 (by assumption) | exact lonL_no2 (by assumption)), by dsimp only; intro x hx; have := hxb x hx; omega⟩, by dsimp only; omega⟩ ⟨rfl, rfl, rfl, rfl, rfl, rfl, rfl, rfl, rfl, trivial⟩ (by repeat first | exact List.nil_sublist _ | apply List.Sublist.cons_cons | apply List.Sublist.cons)
                  · skip
                    refine dr_skip 12 rfl rfl rfl hb11 (by kernel_rfl) (by first | exact List.Sublist.refl _ | (repeat first | exact List.Sublist.slnil | exact List.nil_sublist _ | apply List.Sublist.cons_cons | apply List.Sublist.cons)) rfl ?_
                    refine dr_skip 13 rfl rfl rfl hb11 (by kernel_rfl) (by first | exact List.Sublist.refl _ | (repeat first | exact List.Sublist.slnil | exact List.nil_sublist _ | apply List.Sublist.cons_cons | apply List.Sublist.cons)) rfl ?_
                    refine dr_skip 14 rfl rfl rfl hb11 (by kernel_rfl) (by first | exact List.Sublist.refl _ | (repeat first | exact List.Sublist.slnil | exact List.nil_sublist _ | apply List.Sublist.cons_cons | apply List.Sublist.cons)) rfl ?_
                    refine dr_skip 15 rfl rfl rfl hb11 (by kernel_rfl) (by first | exact List.Sublist.refl _ | (repeat first | exact List.Sublist.slnil | exact List.nil_sublist _ | apply List.Sublist.cons_cons | apply List.Sublist.cons)) rfl ?_
                    refine dr_skip 16 rfl rfl rfl hb11 (by kernel_rfl) (by first | exact List.Sublist.refl _ | (repeat first | exact List.Sublist.slnil | exact List.nil_sublist _ | apply List.Sublist.cons_cons | apply List.Sublist.cons)) rfl ?_
                    refine dr_take 17 rfl (by kernel_rfl) (by first | exact List.Sublist.refl _ | (repeat first | exact List.Sublist.slnil | exact List.nil_sublist _ | apply List.Sublist.cons_cons | apply List.Sublist.cons)) (pv_pick_f rfl hb11 rfl) rfl ?_
                    refine dr_done (by kernel_rfl) ?_
                    refine ex_go ?_
                    refine cd_else rfl rfl ?_
                    refine cd_skip ?_
                    refine ex_in_normal (ex_go ?_)
                    refine cd_region ?_
                    refine at_pure (pv_move rfl) rfl ?_
                    refine at_pure (by first | exact pv_add_n rfl rfl (by unfold In64; omega) | exact pv_add rfl rfl) rfl ?_
                    refine at_pure (pv_assign rfl) rfl ?_
                    refine at_nil ?_
                    subst hmm
                    first | exact ex_meet (j + 1, xs.set (placeI ns z).toNat (maxI (at1 xs (placeI ns z).toNat) (at1 xs (placeI ns y.1).toNat + at1 ws (placeI ns z).toNat))) ⟨⟨by dsimp only; omega, by dsimp only; rw [List.length_set]; exact hxl, fold_step hq2 hy (lonL_yes (by assumption) (by assumption) rfl), by dsimp only; intro x hx; rcases List.mem_or_eq_of_mem_set hx with hx | hx; have := hxb x hx; omega; omega⟩, by dsimp only; omega⟩ ⟨rfl, rfl, rfl, rfl, rfl, rfl, rfl, rfl, rfl, trivial⟩ (by repeat first | exact List.nil_sublist _ | apply List.Sublist.cons_cons | apply List.Sublist.cons) | exact ex_meet (j + 1, xs) ⟨⟨by dsimp only; omega, hxl, fold_step hq2 hy (by first | exact lonL_no1 (by assumption) | exact lonL_no2 (by assumption)), by dsimp only; intro x hx; have := hxb x hx; omega⟩, by dsimp only; omega⟩ ⟨rfl, rfl, rfl, rfl, rfl, rfl, rfl, rfl, rfl, trivial⟩ (by repeat first | exact List.nil_sublist _ | apply List.Sublist.cons_cons | apply List.Sublist.cons)
                · have hxe : lonO ns ls ws sums z = xs := fold_end hq2 (by simp at hlt3; omega)
                  have hjj : j = ls.length := by simp at hlt3; omega
                  have hl256 := hvf.2.1
                  refine cd_exit ?_
                  refine ex_then_exit (ex_then_exit (ex_in (ex_in_normal (ex_go ?_))))
                  refine cd_region ?_
                  refine at_pure (pv_move rfl) rfl ?_
                  refine at_pure (by first | exact pv_add_n rfl rfl (by unfold In64; omega) | exact pv_add rfl rfl) rfl ?_
                  refine at_pure (pv_assign rfl) rfl ?_
                  refine at_nil ?_
                  exact ex_meet (k + 1, xs) ⟨⟨by dsimp only; omega, hxl, fold_step hq hz hxe, by intro x hx; have := hxb x hx; omega⟩, by dsimp only; omega⟩ ⟨rfl, rfl, rfl, rfl, rfl, rfl, rfl, trivial⟩ (by repeat first | exact List.nil_sublist _ | apply List.Sublist.cons_cons | apply List.Sublist.cons)
              · skip
                refine cd_exit ?_
                refine ex_then_exit (ex_then_exit (ex_in (ex_go ?_)))
                refine cd_seq ?_
                refine cd_seq ?_
                have hres : lonR ns ls ws (placeI ns f) = sums := fold_end hq (by simp at hlt2; omega)
                have hat := at1_get (xs := sums) (k := (placeI ns t).toNat) (by omega)
                refine cd_region ?_
                refine at_pure (pv_move rfl) rfl ?_
                refine at_pure (pv_move rfl) rfl ?_
                refine at_pure (pv_ix Try.underlying22 cz_3 rfl rfl (by first | omega | (simp only [decide_eq_true_eq] at *; omega)) (.inr rfl) (k := (placeI ns t).toNat) (by omega)) rfl ?_
                refine at_pure (pv_elem0 ld_3 rfl (RowP.get len1 (by decide) (.s (.s .z)) hat .z)) rfl ?_
                refine at_pure (pv_lss rfl rfl) rfl ?_
                refine at_nil ?_
                refine ex_go ?_
                refine cd_if rfl (fun hb13 => ?_) (fun hb13 => ?_)
                · skip
                  refine cd_seq ?_
                  have hlast := lon_none (f := f) (t := t) hok hpf0.1 hpt0.1 (by rw [hres]; simp only [decide_eq_true_eq] at *; omega)
                  refine cd_region ?_
                  refine at_pure (pv_assign rfl) rfl ?_
                  refine at_pure (pv_assign rfl) rfl ?_
                  refine at_nil ?_
                  refine ex_go ?_
                  refine cd_ret ?_
                  refine ex_then_ret ?_
                  exact end_ret2 rfl rfl rfl (fun w hs => ⟨by clear hs; first | (rw [hm.1, hm.2]; done) | (rw [hlast.1, hlast.2]; done) | (have h9 : lonE ns ls ws f t = 1 ∧ lonV ns ls ws f t = 0 := lon_no (lonOk_no (.inl (by simpa using hb1))); rw [h9.1, h9.2]; done) | (have h9 : lonE ns ls ws f t = 1 ∧ lonV ns ls ws f t = 0 := lon_no (lonOk_no (.inr (.inl (bne_t hb2)))); rw [h9.1, h9.2]; done) | (have h9 : lonE ns ls ws f t = 1 ∧ lonV ns ls ws f t = 0 := lon_no (lonOk_no (.inr (.inr (all_hit hz (costB_no (by simp only [decide_eq_true_eq] at *; omega)))))); rw [h9.1, h9.2]; done), hs.keep⟩)
                · skip
                  refine cd_skip ?_
                  refine ex_go ?_
                  refine cd_seq ?_
                  have hlast := lon_is (f := f) (t := t) hok hpf0.1 hpt0.1 (by rw [hres]; simp only [decide_eq_false_iff_not] at *; omega)
                  rw [hres] at hlast
                  refine cd_region ?_
                  refine at_pure (pv_move rfl) rfl ?_
                  refine at_pure (pv_move rfl) rfl ?_
                  refine at_pure (pv_ix Try.underlying22 cz_3 rfl rfl (by first | omega | (simp only [decide_eq_true_eq] at *; omega)) (.inr rfl) (k := (placeI ns t).toNat) (by omega)) rfl ?_
                  refine at_pure (pv_elem0 ld_3 rfl (RowP.get len1 (by decide) (.s (.s .z)) hat .z)) rfl ?_
                  refine at_pure (pv_assign rfl) rfl ?_
                  refine at_pure (pv_assign rfl) rfl ?_
                  refine at_nil ?_
                  refine ex_go ?_
                  refine cd_ret ?_
                  exact end_ret2 rfl rfl rfl (fun w hs => ⟨by clear hs; first | (rw [hm.1, hm.2]; done) | (rw [hlast.1, hlast.2]; done) | (have h9 : lonE ns ls ws f t = 1 ∧ lonV ns ls ws f t = 0 := lon_no (lonOk_no (.inl (by simpa using hb1))); rw [h9.1, h9.2]; done) | (have h9 : lonE ns ls ws f t = 1 ∧ lonV ns ls ws f t = 0 := lon_no (lonOk_no (.inr (.inl (bne_t hb2)))); rw [h9.1, h9.2]; done) | (have h9 : lonE ns ls ws f t = 1 ∧ lonV ns ls ws f t = 0 := lon_no (lonOk_no (.inr (.inr (all_hit hz (costB_no (by simp only [decide_eq_true_eq] at *; omega)))))); rw [h9.1, h9.2]; done), hs.keep⟩)

end Go.Proofs.Ytkejdfnpbkdllaa
