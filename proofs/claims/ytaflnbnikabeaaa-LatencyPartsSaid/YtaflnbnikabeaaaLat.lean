/- The walks of the latency functions of this seat: what each hands back. -/
import Derived.Test.YtaflnbnikabeaaaLatF
set_option linter.unusedVariables false
set_option linter.unusedSimpArgs false
namespace Go.Proofs.Ytaflnbnikabeaaa
open Go Go.RowKit Go.Proofs.YtaflnbnikabeaaaV
def manyB (n : Int) : Bool := decide (0 ≤ n) && decide (n ≤ 1099511627776)
def rateB (n : Int) : Bool := decide (1000 ≤ n) && decide (n ≤ 768000)
def frames (n f t : Int) : Int := if manyB n && rateB f && rateB t then (n * t + f - 1) / f else 0
theorem many_of (n : Int) (h1 : decide (n < 0) = false) (h2 : decide (1099511627776 < n) = false) : 0 ≤ n ∧ n ≤ 1099511627776 := by
  simp at h1 h2; omega
theorem many_of' (n : Int) (h : manyB n = true) : 0 ≤ n ∧ n ≤ 1099511627776 := by simpa [manyB] using h
theorem rate_of (f : Int) (h : rateB f = true) : 1000 ≤ f ∧ f ≤ 768000 := by simpa [rateB] using h
theorem prod_of (n t : Int) (h1 : 0 ≤ n ∧ n ≤ 1099511627776) (h2 : 1000 ≤ t ∧ t ≤ 768000) : 0 ≤ n * t ∧ n * t ≤ 844424930131968000 := by
  refine ⟨Int.mul_nonneg h1.1 (by omega), ?_⟩
  have := Int.mul_le_mul h1.2 h2.2 (by omega) (by omega)
  omega
theorem frames_no (n f t : Int) (h : manyB n = false ∨ rateB f = false ∨ rateB t = false) : frames n f t = 0 := by
  unfold frames; rcases h with h | h | h <;> simp [h]
theorem frames_yes (n f t : Int) (h1 : 0 ≤ n ∧ n ≤ 1099511627776) (h2 : 1000 ≤ f ∧ f ≤ 768000) (h3 : 1000 ≤ t ∧ t ≤ 768000) : frames n f t = (n * t + f - 1) / f := by
  unfold frames manyB rateB; simp [h1, h2, h3]
def ofOk (a b c d e f g : Int) : Bool := rateB a && rateB b && rateB c && decide (16 ≤ e) && decide (e ≤ 8192) && manyB d && manyB f && manyB g
def sel (b : Bool) (x y : Int) : Int := bif b then x else y
def totalI (a b c d e : Int) : Int := sel (manyB a && manyB b && manyB c && manyB d && manyB e) (a + b + c + d + e) 0
theorem nb (x : Int) (h : (!manyB x) = false) : manyB x = true := by simpa using h

theorem few_any (n : Int) (w : World) : Calls Try.prog 51 [.int .i64 n].toArray w (Val (.bool (manyB n)) w) := by
  refine calls_body (n := 9) Try.func51 rfl rfl rfl (St.init _ []) ?_
  refine cd_seq ?_
  refine cd_region ?_
  refine at_pure (pv_assign rfl) rfl ?_
  refine at_nil ?_
  refine ex_go ?_
  refine cd_seq ?_
  refine cd_region ?_
  refine at_pure (pv_move rfl) rfl ?_
  refine at_pure (pv_geq rfl rfl) rfl ?_
  refine at_pure (pv_move rfl) rfl ?_
  refine at_split 5 rfl (fun hb1 => ?_) (fun hb1 => ?_)
  · skip
    refine at_pure_g rfl rfl hb1 (pv_move rfl) rfl ?_
    refine at_pure_g rfl rfl hb1 (pv_leq rfl rfl) rfl ?_
    refine at_pure (pv_pick_t rfl hb1 rfl) rfl ?_
    refine at_pure (pv_assign rfl) rfl ?_
    refine at_nil ?_
    refine ex_go ?_
    refine cd_ret ?_
    exact end_ret1 rfl rfl (fun w hs => ⟨by simp [manyB, *], hs.keep⟩)
  · skip
    refine at_skip rfl rfl hb1 rfl ?_
    refine at_skip rfl rfl hb1 rfl ?_
    refine at_pure (pv_pick_f rfl hb1 rfl) rfl ?_
    refine at_pure (pv_assign rfl) rfl ?_
    refine at_nil ?_
    refine ex_go ?_
    refine cd_ret ?_
    exact end_ret1 rfl rfl (fun w hs => ⟨by simp [manyB, *], hs.keep⟩)

theorem many_ref (n : Int) (w : World) : Calls Try.prog 49 [.int .i64 n].toArray w (Val (.bool (manyB n)) w) := by
  refine calls_body (n := 9) Try.func49 rfl rfl rfl (St.init _ []) ?_
  refine cd_seq ?_
  refine cd_region ?_
  refine at_pure (pv_assign rfl) rfl ?_
  refine at_nil ?_
  refine ex_go ?_
  refine cd_seq ?_
  refine cd_region ?_
  refine at_pure (pv_move rfl) rfl ?_
  refine at_pure (pv_geq rfl rfl) rfl ?_
  refine at_pure (pv_move rfl) rfl ?_
  refine at_split 5 rfl (fun hb1 => ?_) (fun hb1 => ?_)
  · skip
    refine at_pure_g rfl rfl hb1 (pv_move rfl) rfl ?_
    refine at_pure_g rfl rfl hb1 (pv_leq rfl rfl) rfl ?_
    refine at_pure (pv_pick_t rfl hb1 rfl) rfl ?_
    refine at_pure (pv_assign rfl) rfl ?_
    refine at_nil ?_
    refine ex_go ?_
    refine cd_ret ?_
    exact end_ret1 rfl rfl (fun w hs => ⟨by simp [manyB, *], hs.keep⟩)
  · skip
    refine at_skip rfl rfl hb1 rfl ?_
    refine at_skip rfl rfl hb1 rfl ?_
    refine at_pure (pv_pick_f rfl hb1 rfl) rfl ?_
    refine at_pure (pv_assign rfl) rfl ?_
    refine at_nil ?_
    refine ex_go ?_
    refine cd_ret ?_
    exact end_ret1 rfl rfl (fun w hs => ⟨by simp [manyB, *], hs.keep⟩)

theorem rate_any (n : Int) (w : World) : Calls Try.prog 48 [.int .i64 n].toArray w (Val (.bool (rateB n)) w) := by
  refine calls_body (n := 9) Try.func48 rfl rfl rfl (St.init _ []) ?_
  refine cd_seq ?_
  refine cd_region ?_
  refine at_pure (pv_assign rfl) rfl ?_
  refine at_nil ?_
  refine ex_go ?_
  refine cd_seq ?_
  refine cd_region ?_
  refine at_pure (pv_move rfl) rfl ?_
  refine at_pure (pv_geq rfl rfl) rfl ?_
  refine at_pure (pv_move rfl) rfl ?_
  refine at_split 5 rfl (fun hb1 => ?_) (fun hb1 => ?_)
  · skip
    refine at_pure_g rfl rfl hb1 (pv_move rfl) rfl ?_
    refine at_pure_g rfl rfl hb1 (pv_leq rfl rfl) rfl ?_
    refine at_pure (pv_pick_t rfl hb1 rfl) rfl ?_
    refine at_pure (pv_assign rfl) rfl ?_
    refine at_nil ?_
    refine ex_go ?_
    refine cd_ret ?_
    exact end_ret1 rfl rfl (fun w hs => ⟨by simp [rateB, *], hs.keep⟩)
  · skip
    refine at_skip rfl rfl hb1 rfl ?_
    refine at_skip rfl rfl hb1 rfl ?_
    refine at_pure (pv_pick_f rfl hb1 rfl) rfl ?_
    refine at_pure (pv_assign rfl) rfl ?_
    refine at_nil ?_
    refine ex_go ?_
    refine cd_ret ?_
    exact end_ret1 rfl rfl (fun w hs => ⟨by simp [rateB, *], hs.keep⟩)

theorem rate_ref (n : Int) (w : World) : Calls Try.prog 50 [.int .i64 n].toArray w (Val (.bool (rateB n)) w) := by
  refine calls_body (n := 9) Try.func50 rfl rfl rfl (St.init _ []) ?_
  refine cd_seq ?_
  refine cd_region ?_
  refine at_pure (pv_assign rfl) rfl ?_
  refine at_nil ?_
  refine ex_go ?_
  refine cd_seq ?_
  refine cd_region ?_
  refine at_pure (pv_move rfl) rfl ?_
  refine at_pure (pv_geq rfl rfl) rfl ?_
  refine at_pure (pv_move rfl) rfl ?_
  refine at_split 5 rfl (fun hb1 => ?_) (fun hb1 => ?_)
  · skip
    refine at_pure_g rfl rfl hb1 (pv_move rfl) rfl ?_
    refine at_pure_g rfl rfl hb1 (pv_leq rfl rfl) rfl ?_
    refine at_pure (pv_pick_t rfl hb1 rfl) rfl ?_
    refine at_pure (pv_assign rfl) rfl ?_
    refine at_nil ?_
    refine ex_go ?_
    refine cd_ret ?_
    exact end_ret1 rfl rfl (fun w hs => ⟨by simp [rateB, *], hs.keep⟩)
  · skip
    refine at_skip rfl rfl hb1 rfl ?_
    refine at_skip rfl rfl hb1 rfl ?_
    refine at_pure (pv_pick_f rfl hb1 rfl) rfl ?_
    refine at_pure (pv_assign rfl) rfl ?_
    refine at_nil ?_
    refine ex_go ?_
    refine cd_ret ?_
    exact end_ret1 rfl rfl (fun w hs => ⟨by simp [rateB, *], hs.keep⟩)

theorem frames_any (n f t : Int) (w : World) : Calls Try.prog 13 [.int .i64 n, .int .i64 f, .int .i64 t].toArray w (Val (.int .i64 (frames n f t)) w) := by
  refine calls_body (n := 31) Try.func13 rfl rfl rfl (St.init _ []) ?_
  refine cd_seq ?_
  refine cd_region ?_
  refine at_pure (pv_assign rfl) rfl ?_
  refine at_nil ?_
  refine ex_go ?_
  refine cd_seq ?_
  refine cd_seq ?_
  refine cd_region ?_
  refine at_pure (pv_move rfl) rfl ?_
  refine at_pure (pv_lss rfl rfl) rfl ?_
  refine at_pure (pv_move rfl) rfl ?_
  refine at_split 9 rfl (fun hb1 => ?_) (fun hb1 => ?_)
  · skip
    refine at_skip rfl rfl hb1 rfl ?_
    refine at_skip rfl rfl hb1 rfl ?_
    refine at_pure (pv_pick_t rfl hb1 rfl) rfl ?_
    refine at_pure (pv_move rfl) rfl ?_
    refine at_skip rfl rfl rfl rfl ?_
    refine at_skip rfl rfl rfl rfl ?_
    refine at_skip rfl rfl rfl rfl ?_
    refine at_pure (pv_pick_t rfl rfl rfl) rfl ?_
    refine at_pure (pv_move rfl) rfl ?_
    refine at_skip rfl rfl rfl rfl ?_
    refine at_skip rfl rfl rfl rfl ?_
    refine at_skip rfl rfl rfl rfl ?_
    refine at_pure (pv_pick_t rfl rfl rfl) rfl ?_
    refine at_nil ?_
    refine ex_go ?_
    refine cd_then rfl rfl ?_
    refine cd_seq ?_
    refine cd_region ?_
    refine at_pure (pv_assign rfl) rfl ?_
    refine at_nil ?_
    refine ex_go ?_
    refine cd_ret ?_
    refine ex_then_ret ?_
    exact end_ret1 rfl rfl (fun w hs => ⟨by first | (rw [frames_yes n f t q1 q2 q3]; done) | (rw [frames_no n f t (by first | (simp_all [manyB]; done) | (left; simp_all [manyB]; omega))]; done), hs.keep⟩)
  · skip
    refine at_pure_g rfl rfl hb1 (pv_move rfl) rfl ?_
    refine at_pure_g rfl rfl hb1 (pv_gtr rfl rfl) rfl ?_
    refine at_pure (pv_pick_f rfl hb1 rfl) rfl ?_
    refine at_pure (pv_move rfl) rfl ?_
    refine at_split 13 rfl (fun hb2 => ?_) (fun hb2 => ?_)
    · skip
      refine at_skip rfl rfl hb2 rfl ?_
      refine at_skip rfl rfl hb2 rfl ?_
      refine at_skip rfl rfl hb2 rfl ?_
      refine at_pure (pv_pick_t rfl hb2 rfl) rfl ?_
      refine at_pure (pv_move rfl) rfl ?_
      refine at_skip rfl rfl rfl rfl ?_
      refine at_skip rfl rfl rfl rfl ?_
      refine at_skip rfl rfl rfl rfl ?_
      refine at_pure (pv_pick_t rfl rfl rfl) rfl ?_
      refine at_nil ?_
      refine ex_go ?_
      refine cd_then rfl rfl ?_
      refine cd_seq ?_
      refine cd_region ?_
      refine at_pure (pv_assign rfl) rfl ?_
      refine at_nil ?_
      refine ex_go ?_
      refine cd_ret ?_
      refine ex_then_ret ?_
      exact end_ret1 rfl rfl (fun w hs => ⟨by first | (rw [frames_yes n f t q1 q2 q3]; done) | (rw [frames_no n f t (by first | (simp_all [manyB]; done) | (left; simp_all [manyB]; omega))]; done), hs.keep⟩)
    · skip
      refine at_pure_g rfl rfl hb2 (pv_move rfl) rfl ?_
      refine at_does_g rfl rfl hb2 (does_val cal48 rfl rfl rfl (fun w hs => rate_any _ w)) rfl (fun _ => ?_)
      refine at_pure_g rfl rfl hb2 (pv_not rfl) rfl ?_
      refine at_pure (pv_pick_f rfl hb2 rfl) rfl ?_
      refine at_pure (pv_move rfl) rfl ?_
      refine at_split 18 rfl (fun hb3 => ?_) (fun hb3 => ?_)
      · skip
        refine at_skip rfl rfl hb3 rfl ?_
        refine at_skip rfl rfl hb3 rfl ?_
        refine at_skip rfl rfl hb3 rfl ?_
        refine at_pure (pv_pick_t rfl hb3 rfl) rfl ?_
        refine at_nil ?_
        refine ex_go ?_
        refine cd_then rfl rfl ?_
        refine cd_seq ?_
        refine cd_region ?_
        refine at_pure (pv_assign rfl) rfl ?_
        refine at_nil ?_
        refine ex_go ?_
        refine cd_ret ?_
        refine ex_then_ret ?_
        exact end_ret1 rfl rfl (fun w hs => ⟨by first | (rw [frames_yes n f t q1 q2 q3]; done) | (rw [frames_no n f t (by first | (simp_all [manyB]; done) | (left; simp_all [manyB]; omega))]; done), hs.keep⟩)
      · skip
        refine at_pure_g rfl rfl hb3 (pv_move rfl) rfl ?_
        refine at_does_g rfl rfl hb3 (does_val cal48 rfl rfl rfl (fun w hs => rate_any _ w)) rfl (fun _ => ?_)
        refine at_pure_g rfl rfl hb3 (pv_not rfl) rfl ?_
        refine at_pure (pv_pick_f rfl hb3 rfl) rfl ?_
        refine at_nil ?_
        refine ex_go ?_
        refine cd_if rfl (fun hb4 => ?_) (fun hb4 => ?_)
        · skip
          refine cd_seq ?_
          refine cd_region ?_
          refine at_pure (pv_assign rfl) rfl ?_
          refine at_nil ?_
          refine ex_go ?_
          refine cd_ret ?_
          refine ex_then_ret ?_
          exact end_ret1 rfl rfl (fun w hs => ⟨by first | (rw [frames_yes n f t q1 q2 q3]; done) | (rw [frames_no n f t (by first | (simp_all [manyB]; done) | (left; simp_all [manyB]; omega))]; done), hs.keep⟩)
        · skip
          refine cd_skip ?_
          refine ex_go ?_
          refine cd_seq ?_
          have q1 := many_of n hb1 hb2
          have q2 := rate_of f (by simpa using hb3)
          have q3 := rate_of t (by simpa using hb4)
          have q4 := prod_of n t q1 q3
          refine cd_region ?_
          refine at_pure (pv_move rfl) rfl ?_
          refine at_pure (pv_move rfl) rfl ?_
          refine at_pure (by first | exact pv_mul_n rfl rfl (by unfold In64; omega) | exact pv_mul rfl rfl) rfl ?_
          refine at_pure (pv_move rfl) rfl ?_
          refine at_pure (by first | exact pv_add_n rfl rfl (by unfold In64; omega) | exact pv_add rfl rfl) rfl ?_
          refine at_pure (by first | exact pv_sub_n rfl rfl (by unfold In64; omega) | exact pv_sub rfl rfl) rfl ?_
          refine at_pure (pv_move rfl) rfl ?_
          refine at_pure (by first | exact pv_quo_n rfl rfl (by omega) | exact pv_quo rfl rfl (by first | decide | omega)) rfl ?_
          refine at_pure (pv_assign rfl) rfl ?_
          refine at_nil ?_
          refine ex_go ?_
          refine cd_ret ?_
          exact end_ret1 rfl rfl (fun w hs => ⟨by first | (rw [frames_yes n f t q1 q2 q3]; done) | (rw [frames_no n f t (by first | (simp_all [manyB]; done) | (left; simp_all [manyB]; omega))]; done), hs.keep⟩)

theorem frames_ref (n f t : Int) (w : World) : Calls Try.prog 14 [.int .i64 n, .int .i64 f, .int .i64 t].toArray w (Val (.int .i64 (frames n f t)) w) := by
  refine calls_body (n := 28) Try.func14 rfl rfl rfl (St.init _ []) ?_
  refine cd_seq ?_
  refine cd_region ?_
  refine at_pure (pv_assign rfl) rfl ?_
  refine at_nil ?_
  refine ex_go ?_
  refine cd_seq ?_
  refine cd_seq ?_
  refine cd_region ?_
  refine at_pure (pv_move rfl) rfl ?_
  refine at_does (does_val cal49 rfl rfl rfl (fun w hs => many_ref _ w)) rfl (fun _ => ?_)
  refine at_pure (pv_not rfl) rfl ?_
  refine at_pure (pv_move rfl) rfl ?_
  refine at_split 10 rfl (fun hb1 => ?_) (fun hb1 => ?_)
  · skip
    refine at_skip rfl rfl hb1 rfl ?_
    refine at_skip rfl rfl hb1 rfl ?_
    refine at_skip rfl rfl hb1 rfl ?_
    refine at_pure (pv_pick_t rfl hb1 rfl) rfl ?_
    refine at_pure (pv_move rfl) rfl ?_
    refine at_skip rfl rfl rfl rfl ?_
    refine at_skip rfl rfl rfl rfl ?_
    refine at_skip rfl rfl rfl rfl ?_
    refine at_pure (pv_pick_t rfl rfl rfl) rfl ?_
    refine at_nil ?_
    refine ex_go ?_
    refine cd_then rfl rfl ?_
    refine cd_seq ?_
    refine cd_region ?_
    refine at_pure (pv_assign rfl) rfl ?_
    refine at_nil ?_
    refine ex_go ?_
    refine cd_ret ?_
    refine ex_then_ret ?_
    exact end_ret1 rfl rfl (fun w hs => ⟨by first | (rw [frames_yes n f t q1 q2 q3]; done) | (rw [frames_no n f t (by first | (simp_all [manyB]; done) | (left; simp_all [manyB]; omega))]; done), hs.keep⟩)
  · skip
    refine at_pure_g rfl rfl hb1 (pv_move rfl) rfl ?_
    refine at_does_g rfl rfl hb1 (does_val cal50 rfl rfl rfl (fun w hs => rate_ref _ w)) rfl (fun _ => ?_)
    refine at_pure_g rfl rfl hb1 (pv_not rfl) rfl ?_
    refine at_pure (pv_pick_f rfl hb1 rfl) rfl ?_
    refine at_pure (pv_move rfl) rfl ?_
    refine at_split 15 rfl (fun hb2 => ?_) (fun hb2 => ?_)
    · skip
      refine at_skip rfl rfl hb2 rfl ?_
      refine at_skip rfl rfl hb2 rfl ?_
      refine at_skip rfl rfl hb2 rfl ?_
      refine at_pure (pv_pick_t rfl hb2 rfl) rfl ?_
      refine at_nil ?_
      refine ex_go ?_
      refine cd_then rfl rfl ?_
      refine cd_seq ?_
      refine cd_region ?_
      refine at_pure (pv_assign rfl) rfl ?_
      refine at_nil ?_
      refine ex_go ?_
      refine cd_ret ?_
      refine ex_then_ret ?_
      exact end_ret1 rfl rfl (fun w hs => ⟨by first | (rw [frames_yes n f t q1 q2 q3]; done) | (rw [frames_no n f t (by first | (simp_all [manyB]; done) | (left; simp_all [manyB]; omega))]; done), hs.keep⟩)
    · skip
      refine at_pure_g rfl rfl hb2 (pv_move rfl) rfl ?_
      refine at_does_g rfl rfl hb2 (does_val cal50 rfl rfl rfl (fun w hs => rate_ref _ w)) rfl (fun _ => ?_)
      refine at_pure_g rfl rfl hb2 (pv_not rfl) rfl ?_
      refine at_pure (pv_pick_f rfl hb2 rfl) rfl ?_
      refine at_nil ?_
      refine ex_go ?_
      refine cd_if rfl (fun hb3 => ?_) (fun hb3 => ?_)
      · skip
        refine cd_seq ?_
        refine cd_region ?_
        refine at_pure (pv_assign rfl) rfl ?_
        refine at_nil ?_
        refine ex_go ?_
        refine cd_ret ?_
        refine ex_then_ret ?_
        exact end_ret1 rfl rfl (fun w hs => ⟨by first | (rw [frames_yes n f t q1 q2 q3]; done) | (rw [frames_no n f t (by first | (simp_all [manyB]; done) | (left; simp_all [manyB]; omega))]; done), hs.keep⟩)
      · skip
        refine cd_skip ?_
        refine ex_go ?_
        refine cd_seq ?_
        have q1 := many_of' n (by simpa using hb1)
        have q2 := rate_of f (by simpa using hb2)
        have q3 := rate_of t (by simpa using hb3)
        have q4 := prod_of n t q1 q3
        refine cd_region ?_
        refine at_pure (pv_move rfl) rfl ?_
        refine at_pure (pv_move rfl) rfl ?_
        refine at_pure (by first | exact pv_mul_n rfl rfl (by unfold In64; omega) | exact pv_mul rfl rfl) rfl ?_
        refine at_pure (pv_move rfl) rfl ?_
        refine at_pure (by first | exact pv_add_n rfl rfl (by unfold In64; omega) | exact pv_add rfl rfl) rfl ?_
        refine at_pure (by first | exact pv_sub_n rfl rfl (by unfold In64; omega) | exact pv_sub rfl rfl) rfl ?_
        refine at_pure (pv_move rfl) rfl ?_
        refine at_pure (by first | exact pv_quo_n rfl rfl (by omega) | exact pv_quo rfl rfl (by first | decide | omega)) rfl ?_
        refine at_pure (pv_assign rfl) rfl ?_
        refine at_nil ?_
        refine ex_go ?_
        refine cd_ret ?_
        exact end_ret1 rfl rfl (fun w hs => ⟨by first | (rw [frames_yes n f t q1 q2 q3]; done) | (rw [frames_no n f t (by first | (simp_all [manyB]; done) | (left; simp_all [manyB]; omega))]; done), hs.keep⟩)

theorem of_any (a b c d e f g : Int) (w : World) : Calls Try.prog 15 [.agg #[.int .i64 a, .int .i64 b, .int .i64 c, .int .i64 d, .int .i64 e, .int .i64 f, .int .i64 g]].toArray w (Val (.tuple #[.agg #[.int .i64 (sel (ofOk a b c d e f g) (frames d b a) 0), .int .i64 (sel (ofOk a b c d e f g) (frames 2 b a) 0), .int .i64 (sel (ofOk a b c d e f g) e 0), .int .i64 (sel (ofOk a b c d e f g) f 0), .int .i64 (sel (ofOk a b c d e f g) (frames g c a) 0)], .int .i64 (sel (ofOk a b c d e f g) 0 2)]) w) := by
  refine calls_body (n := 77) Try.func15 rfl rfl rfl (St.init _ []) ?_
  refine cd_seq ?_
  refine cd_region ?_
  refine at_does (does_box rfl .agg (fun _ => .nil)) rfl (fun g1 => ?_)
  refine at_does (does_alloc ze_29 .agg (fun _ => (.cons .nil))) rfl (fun g2 => ?_)
  refine at_pure (pv_assign rfl) rfl ?_
  refine at_nil ?_
  refine ex_go ?_
  refine cd_seq ?_
  refine cd_region ?_
  refine at_pure (pv_assign rfl) rfl ?_
  refine at_nil ?_
  refine ex_go ?_
  refine cd_seq ?_
  refine cd_seq ?_
  refine cd_region ?_
  refine at_pure (pv_field0 fa_27_0 rfl (r := 0) rfl) rfl ?_
  refine at_pure (by exact pv_load ld_3 rfl (box_cell .z .z)) rfl ?_
  refine at_does (does_val cal48 rfl rfl rfl (fun w hs => rate_any _ w)) rfl (fun _ => ?_)
  refine at_pure (pv_not rfl) rfl ?_
  refine at_pure (pv_move rfl) rfl ?_
  refine at_split 9 rfl (fun hb1 => ?_) (fun hb1 => ?_)
  · skip
    refine at_skip rfl rfl hb1 rfl ?_
    refine at_skip rfl rfl hb1 rfl ?_
    refine at_skip rfl rfl hb1 rfl ?_
    refine at_skip rfl rfl hb1 rfl ?_
    refine at_pure (pv_pick_t rfl hb1 rfl) rfl ?_
    refine at_pure (pv_move rfl) rfl ?_
    refine at_skip rfl rfl rfl rfl ?_
    refine at_skip rfl rfl rfl rfl ?_
    refine at_skip rfl rfl rfl rfl ?_
    refine at_skip rfl rfl rfl rfl ?_
    refine at_pure (pv_pick_t rfl rfl rfl) rfl ?_
    refine at_pure (pv_move rfl) rfl ?_
    refine at_skip rfl rfl rfl rfl ?_
    refine at_skip rfl rfl rfl rfl ?_
    refine at_skip rfl rfl rfl rfl ?_
    refine at_pure (pv_pick_t rfl rfl rfl) rfl ?_
    refine at_pure (pv_move rfl) rfl ?_
    refine at_skip rfl rfl rfl rfl ?_
    refine at_skip rfl rfl rfl rfl ?_
    refine at_skip rfl rfl rfl rfl ?_
    refine at_pure (pv_pick_t rfl rfl rfl) rfl ?_
    refine at_pure (pv_move rfl) rfl ?_
    refine at_skip rfl rfl rfl rfl ?_
    refine at_skip rfl rfl rfl rfl ?_
    refine at_skip rfl rfl rfl rfl ?_
    refine at_skip rfl rfl rfl rfl ?_
    refine at_skip rfl rfl rfl rfl ?_
    refine at_pure (pv_pick_t rfl rfl rfl) rfl ?_
    refine at_pure (pv_move rfl) rfl ?_
    refine at_skip rfl rfl rfl rfl ?_
    refine at_skip rfl rfl rfl rfl ?_
    refine at_skip rfl rfl rfl rfl ?_
    refine at_skip rfl rfl rfl rfl ?_
    refine at_skip rfl rfl rfl rfl ?_
    refine at_pure (pv_pick_t rfl rfl rfl) rfl ?_
    refine at_pure (pv_move rfl) rfl ?_
    refine at_skip rfl rfl rfl rfl ?_
    refine at_skip rfl rfl rfl rfl ?_
    refine at_skip rfl rfl rfl rfl ?_
    refine at_skip rfl rfl rfl rfl ?_
    refine at_skip rfl rfl rfl rfl ?_
    refine at_pure (pv_pick_t rfl rfl rfl) rfl ?_
    refine at_nil ?_
    refine ex_go ?_
    refine cd_then rfl rfl ?_
    refine cd_seq ?_
    refine cd_region ?_
    refine at_pure (pv_build rfl (bu_29_)) rfl ?_
    refine at_turns (by exact turns_store sz_29 rfl rfl .agg rfl rfl (.s .z) (.rep (.rep (.rep (.rep (.rep .done))))) (.s .z)) ?_
    refine at_pure (pv_assign rfl) rfl ?_
    refine at_nil ?_
    refine ex_go ?_
    refine cd_ret ?_
    refine ex_then_ret ?_
    exact end_ct rfl (by exact Lies.box ag_29 rfl (.s .z) rfl) rfl (fun w hs => ⟨by clear hs; first | (have z : ofOk a b c d e f g = false := (by first | (simp_all [ofOk]; done) | (simp_all [ofOk]; omega)); rw [z]; rfl) | (have z : ofOk a b c d e f g = true := (by first | (simp_all [ofOk]; done) | (simp_all [ofOk]; omega)); rw [z]; rfl), hs.keep⟩)
  · skip
    refine at_pure_g rfl rfl hb1 (pv_field0 fa_27_1 rfl (r := 1) rfl) rfl ?_
    refine at_pure_g rfl rfl hb1 (by exact pv_load ld_3 rfl (box_cell .z (.s .z))) rfl ?_
    refine at_does_g rfl rfl hb1 (does_val cal48 rfl rfl rfl (fun w hs => rate_any _ w)) rfl (fun _ => ?_)
    refine at_pure_g rfl rfl hb1 (pv_not rfl) rfl ?_
    refine at_pure (pv_pick_f rfl hb1 rfl) rfl ?_
    refine at_pure (pv_move rfl) rfl ?_
    refine at_split 15 rfl (fun hb2 => ?_) (fun hb2 => ?_)
    · skip
      refine at_skip rfl rfl hb2 rfl ?_
      refine at_skip rfl rfl hb2 rfl ?_
      refine at_skip rfl rfl hb2 rfl ?_
      refine at_skip rfl rfl hb2 rfl ?_
      refine at_pure (pv_pick_t rfl hb2 rfl) rfl ?_
      refine at_pure (pv_move rfl) rfl ?_
      refine at_skip rfl rfl rfl rfl ?_
      refine at_skip rfl rfl rfl rfl ?_
      refine at_skip rfl rfl rfl rfl ?_
      refine at_pure (pv_pick_t rfl rfl rfl) rfl ?_
      refine at_pure (pv_move rfl) rfl ?_
      refine at_skip rfl rfl rfl rfl ?_
      refine at_skip rfl rfl rfl rfl ?_
      refine at_skip rfl rfl rfl rfl ?_
      refine at_pure (pv_pick_t rfl rfl rfl) rfl ?_
      refine at_pure (pv_move rfl) rfl ?_
      refine at_skip rfl rfl rfl rfl ?_
      refine at_skip rfl rfl rfl rfl ?_
      refine at_skip rfl rfl rfl rfl ?_
      refine at_skip rfl rfl rfl rfl ?_
      refine at_skip rfl rfl rfl rfl ?_
      refine at_pure (pv_pick_t rfl rfl rfl) rfl ?_
      refine at_pure (pv_move rfl) rfl ?_
      refine at_skip rfl rfl rfl rfl ?_
      refine at_skip rfl rfl rfl rfl ?_
      refine at_skip rfl rfl rfl rfl ?_
      refine at_skip rfl rfl rfl rfl ?_
      refine at_skip rfl rfl rfl rfl ?_
      refine at_pure (pv_pick_t rfl rfl rfl) rfl ?_
      refine at_pure (pv_move rfl) rfl ?_
      refine at_skip rfl rfl rfl rfl ?_
      refine at_skip rfl rfl rfl rfl ?_
      refine at_skip rfl rfl rfl rfl ?_
      refine at_skip rfl rfl rfl rfl ?_
      refine at_skip rfl rfl rfl rfl ?_
      refine at_pure (pv_pick_t rfl rfl rfl) rfl ?_
      refine at_nil ?_
      refine ex_go ?_
      refine cd_then rfl rfl ?_
      refine cd_seq ?_
      refine cd_region ?_
      refine at_pure (pv_build rfl (bu_29_)) rfl ?_
      refine at_turns (by exact turns_store sz_29 rfl rfl .agg rfl rfl (.s .z) (.rep (.rep (.rep (.rep (.rep .done))))) (.s .z)) ?_
      refine at_pure (pv_assign rfl) rfl ?_
      refine at_nil ?_
      refine ex_go ?_
      refine cd_ret ?_
      refine ex_then_ret ?_
      exact end_ct rfl (by exact Lies.box ag_29 rfl (.s .z) rfl) rfl (fun w hs => ⟨by clear hs; first | (have z : ofOk a b c d e f g = false := (by first | (simp_all [ofOk]; done) | (simp_all [ofOk]; omega)); rw [z]; rfl) | (have z : ofOk a b c d e f g = true := (by first | (simp_all [ofOk]; done) | (simp_all [ofOk]; omega)); rw [z]; rfl), hs.keep⟩)
    · skip
      refine at_pure_g rfl rfl hb2 (pv_field0 fa_27_2 rfl (r := 2) rfl) rfl ?_
      refine at_pure_g rfl rfl hb2 (by exact pv_load ld_3 rfl (box_cell .z (.s (.s .z)))) rfl ?_
      refine at_does_g rfl rfl hb2 (does_val cal48 rfl rfl rfl (fun w hs => rate_any _ w)) rfl (fun _ => ?_)
      refine at_pure_g rfl rfl hb2 (pv_not rfl) rfl ?_
      refine at_pure (pv_pick_f rfl hb2 rfl) rfl ?_
      refine at_pure (pv_move rfl) rfl ?_
      refine at_split 21 rfl (fun hb3 => ?_) (fun hb3 => ?_)
      · skip
        refine at_skip rfl rfl hb3 rfl ?_
        refine at_skip rfl rfl hb3 rfl ?_
        refine at_skip rfl rfl hb3 rfl ?_
        refine at_pure (pv_pick_t rfl hb3 rfl) rfl ?_
        refine at_pure (pv_move rfl) rfl ?_
        refine at_skip rfl rfl rfl rfl ?_
        refine at_skip rfl rfl rfl rfl ?_
        refine at_skip rfl rfl rfl rfl ?_
        refine at_pure (pv_pick_t rfl rfl rfl) rfl ?_
        refine at_pure (pv_move rfl) rfl ?_
        refine at_skip rfl rfl rfl rfl ?_
        refine at_skip rfl rfl rfl rfl ?_
        refine at_skip rfl rfl rfl rfl ?_
        refine at_skip rfl rfl rfl rfl ?_
        refine at_skip rfl rfl rfl rfl ?_
        refine at_pure (pv_pick_t rfl rfl rfl) rfl ?_
        refine at_pure (pv_move rfl) rfl ?_
        refine at_skip rfl rfl rfl rfl ?_
        refine at_skip rfl rfl rfl rfl ?_
        refine at_skip rfl rfl rfl rfl ?_
        refine at_skip rfl rfl rfl rfl ?_
        refine at_skip rfl rfl rfl rfl ?_
        refine at_pure (pv_pick_t rfl rfl rfl) rfl ?_
        refine at_pure (pv_move rfl) rfl ?_
        refine at_skip rfl rfl rfl rfl ?_
        refine at_skip rfl rfl rfl rfl ?_
        refine at_skip rfl rfl rfl rfl ?_
        refine at_skip rfl rfl rfl rfl ?_
        refine at_skip rfl rfl rfl rfl ?_
        refine at_pure (pv_pick_t rfl rfl rfl) rfl ?_
        refine at_nil ?_
        refine ex_go ?_
        refine cd_then rfl rfl ?_
        refine cd_seq ?_
        refine cd_region ?_
        refine at_pure (pv_build rfl (bu_29_)) rfl ?_
        refine at_turns (by exact turns_store sz_29 rfl rfl .agg rfl rfl (.s .z) (.rep (.rep (.rep (.rep (.rep .done))))) (.s .z)) ?_
        refine at_pure (pv_assign rfl) rfl ?_
        refine at_nil ?_
        refine ex_go ?_
        refine cd_ret ?_
        refine ex_then_ret ?_
        exact end_ct rfl (by exact Lies.box ag_29 rfl (.s .z) rfl) rfl (fun w hs => ⟨by clear hs; first | (have z : ofOk a b c d e f g = false := (by first | (simp_all [ofOk]; done) | (simp_all [ofOk]; omega)); rw [z]; rfl) | (have z : ofOk a b c d e f g = true := (by first | (simp_all [ofOk]; done) | (simp_all [ofOk]; omega)); rw [z]; rfl), hs.keep⟩)
      · skip
        refine at_pure_g rfl rfl hb3 (pv_field0 fa_27_4 rfl (r := 4) rfl) rfl ?_
        refine at_pure_g rfl rfl hb3 (by exact pv_load ld_3 rfl (box_cell .z (.s (.s (.s (.s .z)))))) rfl ?_
        refine at_pure_g rfl rfl hb3 (pv_lss rfl rfl) rfl ?_
        refine at_pure (pv_pick_f rfl hb3 rfl) rfl ?_
        refine at_pure (pv_move rfl) rfl ?_
        refine at_split 26 rfl (fun hb4 => ?_) (fun hb4 => ?_)
        · skip
          refine at_skip rfl rfl hb4 rfl ?_
          refine at_skip rfl rfl hb4 rfl ?_
          refine at_skip rfl rfl hb4 rfl ?_
          refine at_pure (pv_pick_t rfl hb4 rfl) rfl ?_
          refine at_pure (pv_move rfl) rfl ?_
          refine at_skip rfl rfl rfl rfl ?_
          refine at_skip rfl rfl rfl rfl ?_
          refine at_skip rfl rfl rfl rfl ?_
          refine at_skip rfl rfl rfl rfl ?_
          refine at_skip rfl rfl rfl rfl ?_
          refine at_pure (pv_pick_t rfl rfl rfl) rfl ?_
          refine at_pure (pv_move rfl) rfl ?_
          refine at_skip rfl rfl rfl rfl ?_
          refine at_skip rfl rfl rfl rfl ?_
          refine at_skip rfl rfl rfl rfl ?_
          refine at_skip rfl rfl rfl rfl ?_
          refine at_skip rfl rfl rfl rfl ?_
          refine at_pure (pv_pick_t rfl rfl rfl) rfl ?_
          refine at_pure (pv_move rfl) rfl ?_
          refine at_skip rfl rfl rfl rfl ?_
          refine at_skip rfl rfl rfl rfl ?_
          refine at_skip rfl rfl rfl rfl ?_
          refine at_skip rfl rfl rfl rfl ?_
          refine at_skip rfl rfl rfl rfl ?_
          refine at_pure (pv_pick_t rfl rfl rfl) rfl ?_
          refine at_nil ?_
          refine ex_go ?_
          refine cd_then rfl rfl ?_
          refine cd_seq ?_
          refine cd_region ?_
          refine at_pure (pv_build rfl (bu_29_)) rfl ?_
          refine at_turns (by exact turns_store sz_29 rfl rfl .agg rfl rfl (.s .z) (.rep (.rep (.rep (.rep (.rep .done))))) (.s .z)) ?_
          refine at_pure (pv_assign rfl) rfl ?_
          refine at_nil ?_
          refine ex_go ?_
          refine cd_ret ?_
          refine ex_then_ret ?_
          exact end_ct rfl (by exact Lies.box ag_29 rfl (.s .z) rfl) rfl (fun w hs => ⟨by clear hs; first | (have z : ofOk a b c d e f g = false := (by first | (simp_all [ofOk]; done) | (simp_all [ofOk]; omega)); rw [z]; rfl) | (have z : ofOk a b c d e f g = true := (by first | (simp_all [ofOk]; done) | (simp_all [ofOk]; omega)); rw [z]; rfl), hs.keep⟩)
        · skip
          refine at_pure_g rfl rfl hb4 (pv_field0 fa_27_4 rfl (r := 4) rfl) rfl ?_
          refine at_pure_g rfl rfl hb4 (by exact pv_load ld_3 rfl (box_cell .z (.s (.s (.s (.s .z)))))) rfl ?_
          refine at_pure_g rfl rfl hb4 (pv_gtr rfl rfl) rfl ?_
          refine at_pure (pv_pick_f rfl hb4 rfl) rfl ?_
          refine at_pure (pv_move rfl) rfl ?_
          refine at_split 31 rfl (fun hb5 => ?_) (fun hb5 => ?_)
          · skip
            refine at_skip rfl rfl hb5 rfl ?_
            refine at_skip rfl rfl hb5 rfl ?_
            refine at_skip rfl rfl hb5 rfl ?_
            refine at_skip rfl rfl hb5 rfl ?_
            refine at_skip rfl rfl hb5 rfl ?_
            refine at_pure (pv_pick_t rfl hb5 rfl) rfl ?_
            refine at_pure (pv_move rfl) rfl ?_
            refine at_skip rfl rfl rfl rfl ?_
            refine at_skip rfl rfl rfl rfl ?_
            refine at_skip rfl rfl rfl rfl ?_
            refine at_skip rfl rfl rfl rfl ?_
            refine at_skip rfl rfl rfl rfl ?_
            refine at_pure (pv_pick_t rfl rfl rfl) rfl ?_
            refine at_pure (pv_move rfl) rfl ?_
            refine at_skip rfl rfl rfl rfl ?_
            refine at_skip rfl rfl rfl rfl ?_
            refine at_skip rfl rfl rfl rfl ?_
            refine at_skip rfl rfl rfl rfl ?_
            refine at_skip rfl rfl rfl rfl ?_
            refine at_pure (pv_pick_t rfl rfl rfl) rfl ?_
            refine at_nil ?_
            refine ex_go ?_
            refine cd_then rfl rfl ?_
            refine cd_seq ?_
            refine cd_region ?_
            refine at_pure (pv_build rfl (bu_29_)) rfl ?_
            refine at_turns (by exact turns_store sz_29 rfl rfl .agg rfl rfl (.s .z) (.rep (.rep (.rep (.rep (.rep .done))))) (.s .z)) ?_
            refine at_pure (pv_assign rfl) rfl ?_
            refine at_nil ?_
            refine ex_go ?_
            refine cd_ret ?_
            refine ex_then_ret ?_
            exact end_ct rfl (by exact Lies.box ag_29 rfl (.s .z) rfl) rfl (fun w hs => ⟨by clear hs; first | (have z : ofOk a b c d e f g = false := (by first | (simp_all [ofOk]; done) | (simp_all [ofOk]; omega)); rw [z]; rfl) | (have z : ofOk a b c d e f g = true := (by first | (simp_all [ofOk]; done) | (simp_all [ofOk]; omega)); rw [z]; rfl), hs.keep⟩)
          · skip
            refine at_pure_g rfl rfl hb5 (pv_move rfl) rfl ?_
            refine at_pure_g rfl rfl hb5 (pv_field0 fa_27_3 rfl (r := 3) rfl) rfl ?_
            refine at_pure_g rfl rfl hb5 (by exact pv_load ld_3 rfl (box_cell .z (.s (.s (.s .z))))) rfl ?_
            refine at_does_g rfl rfl hb5 (does_val cal51 rfl rfl rfl (fun w hs => few_any _ w)) rfl (fun _ => ?_)
            refine at_pure_g rfl rfl hb5 (pv_not rfl) rfl ?_
            refine at_pure (pv_pick_f rfl hb5 rfl) rfl ?_
            refine at_pure (pv_move rfl) rfl ?_
            refine at_split 38 rfl (fun hb6 => ?_) (fun hb6 => ?_)
            · skip
              refine at_skip rfl rfl hb6 rfl ?_
              refine at_skip rfl rfl hb6 rfl ?_
              refine at_skip rfl rfl hb6 rfl ?_
              refine at_skip rfl rfl hb6 rfl ?_
              refine at_skip rfl rfl hb6 rfl ?_
              refine at_pure (pv_pick_t rfl hb6 rfl) rfl ?_
              refine at_pure (pv_move rfl) rfl ?_
              refine at_skip rfl rfl rfl rfl ?_
              refine at_skip rfl rfl rfl rfl ?_
              refine at_skip rfl rfl rfl rfl ?_
              refine at_skip rfl rfl rfl rfl ?_
              refine at_skip rfl rfl rfl rfl ?_
              refine at_pure (pv_pick_t rfl rfl rfl) rfl ?_
              refine at_nil ?_
              refine ex_go ?_
              refine cd_then rfl rfl ?_
              refine cd_seq ?_
              refine cd_region ?_
              refine at_pure (pv_build rfl (bu_29_)) rfl ?_
              refine at_turns (by exact turns_store sz_29 rfl rfl .agg rfl rfl (.s .z) (.rep (.rep (.rep (.rep (.rep .done))))) (.s .z)) ?_
              refine at_pure (pv_assign rfl) rfl ?_
              refine at_nil ?_
              refine ex_go ?_
              refine cd_ret ?_
              refine ex_then_ret ?_
              exact end_ct rfl (by exact Lies.box ag_29 rfl (.s .z) rfl) rfl (fun w hs => ⟨by clear hs; first | (have z : ofOk a b c d e f g = false := (by first | (simp_all [ofOk]; done) | (simp_all [ofOk]; omega)); rw [z]; rfl) | (have z : ofOk a b c d e f g = true := (by first | (simp_all [ofOk]; done) | (simp_all [ofOk]; omega)); rw [z]; rfl), hs.keep⟩)
            · skip
              refine at_pure_g rfl rfl hb6 (pv_move rfl) rfl ?_
              refine at_pure_g rfl rfl hb6 (pv_field0 fa_27_5 rfl (r := 5) rfl) rfl ?_
              refine at_pure_g rfl rfl hb6 (by exact pv_load ld_3 rfl (box_cell .z (.s (.s (.s (.s (.s .z))))))) rfl ?_
              refine at_does_g rfl rfl hb6 (does_val cal51 rfl rfl rfl (fun w hs => few_any _ w)) rfl (fun _ => ?_)
              refine at_pure_g rfl rfl hb6 (pv_not rfl) rfl ?_
              refine at_pure (pv_pick_f rfl hb6 rfl) rfl ?_
              refine at_pure (pv_move rfl) rfl ?_
              refine at_split 45 rfl (fun hb7 => ?_) (fun hb7 => ?_)
              · skip
                refine at_skip rfl rfl hb7 rfl ?_
                refine at_skip rfl rfl hb7 rfl ?_
                refine at_skip rfl rfl hb7 rfl ?_
                refine at_skip rfl rfl hb7 rfl ?_
                refine at_skip rfl rfl hb7 rfl ?_
                refine at_pure (pv_pick_t rfl hb7 rfl) rfl ?_
                refine at_nil ?_
                refine ex_go ?_
                refine cd_then rfl rfl ?_
                refine cd_seq ?_
                refine cd_region ?_
                refine at_pure (pv_build rfl (bu_29_)) rfl ?_
                refine at_turns (by exact turns_store sz_29 rfl rfl .agg rfl rfl (.s .z) (.rep (.rep (.rep (.rep (.rep .done))))) (.s .z)) ?_
                refine at_pure (pv_assign rfl) rfl ?_
                refine at_nil ?_
                refine ex_go ?_
                refine cd_ret ?_
                refine ex_then_ret ?_
                exact end_ct rfl (by exact Lies.box ag_29 rfl (.s .z) rfl) rfl (fun w hs => ⟨by clear hs; first | (have z : ofOk a b c d e f g = false := (by first | (simp_all [ofOk]; done) | (simp_all [ofOk]; omega)); rw [z]; rfl) | (have z : ofOk a b c d e f g = true := (by first | (simp_all [ofOk]; done) | (simp_all [ofOk]; omega)); rw [z]; rfl), hs.keep⟩)
              · skip
                refine at_pure_g rfl rfl hb7 (pv_move rfl) rfl ?_
                refine at_pure_g rfl rfl hb7 (pv_field0 fa_27_6 rfl (r := 6) rfl) rfl ?_
                refine at_pure_g rfl rfl hb7 (by exact pv_load ld_3 rfl (box_cell .z (.s (.s (.s (.s (.s (.s .z)))))))) rfl ?_
                refine at_does_g rfl rfl hb7 (does_val cal51 rfl rfl rfl (fun w hs => few_any _ w)) rfl (fun _ => ?_)
                refine at_pure_g rfl rfl hb7 (pv_not rfl) rfl ?_
                refine at_pure (pv_pick_f rfl hb7 rfl) rfl ?_
                refine at_nil ?_
                refine ex_go ?_
                refine cd_if rfl (fun hb8 => ?_) (fun hb8 => ?_)
                · skip
                  refine cd_seq ?_
                  refine cd_region ?_
                  refine at_pure (pv_build rfl (bu_29_)) rfl ?_
                  refine at_turns (by exact turns_store sz_29 rfl rfl .agg rfl rfl (.s .z) (.rep (.rep (.rep (.rep (.rep .done))))) (.s .z)) ?_
                  refine at_pure (pv_assign rfl) rfl ?_
                  refine at_nil ?_
                  refine ex_go ?_
                  refine cd_ret ?_
                  refine ex_then_ret ?_
                  exact end_ct rfl (by exact Lies.box ag_29 rfl (.s .z) rfl) rfl (fun w hs => ⟨by clear hs; first | (have z : ofOk a b c d e f g = false := (by first | (simp_all [ofOk]; done) | (simp_all [ofOk]; omega)); rw [z]; rfl) | (have z : ofOk a b c d e f g = true := (by first | (simp_all [ofOk]; done) | (simp_all [ofOk]; omega)); rw [z]; rfl), hs.keep⟩)
                · skip
                  refine cd_skip ?_
                  refine ex_go ?_
                  refine cd_seq ?_
                  refine cd_draw' 24 follows ?_
                  refine dr_take 0 rfl (by kernel_rfl) (by first | exact List.Sublist.refl _ | exact List.sublist_append_left _ _) (pv_field0 fa_27_3 rfl (r := 3) rfl) rfl ?_
                  refine dr_take 1 rfl (by kernel_rfl) (by first | exact List.Sublist.refl _ | exact List.sublist_append_left _ _) (by exact pv_load ld_3 rfl (box_cell .z (.s (.s (.s .z))))) rfl ?_
                  refine dr_take 2 rfl (by kernel_rfl) (by first | exact List.Sublist.refl _ | exact List.sublist_append_left _ _) (pv_field0 fa_27_1 rfl (r := 1) rfl) rfl ?_
                  refine dr_take 3 rfl (by kernel_rfl) (by first | exact List.Sublist.refl _ | exact List.sublist_append_left _ _) (by exact pv_load ld_3 rfl (box_cell .z (.s .z))) rfl ?_
                  refine dr_take 4 rfl (by kernel_rfl) (by first | exact List.Sublist.refl _ | exact List.sublist_append_left _ _) (pv_field0 fa_27_0 rfl (r := 0) rfl) rfl ?_
                  refine dr_take 5 rfl (by kernel_rfl) (by first | exact List.Sublist.refl _ | exact List.sublist_append_left _ _) (by exact pv_load ld_3 rfl (box_cell .z .z)) rfl ?_
                  refine dr_take 7 rfl (by kernel_rfl) (by first | exact List.Sublist.refl _ | exact List.sublist_append_left _ _) (pv_field0 fa_27_1 rfl (r := 1) rfl) rfl ?_
                  refine dr_take 8 rfl (by kernel_rfl) (by first | exact List.Sublist.refl _ | exact List.sublist_append_left _ _) (by exact pv_load ld_3 rfl (box_cell .z (.s .z))) rfl ?_
                  refine dr_take 9 rfl (by kernel_rfl) (by first | exact List.Sublist.refl _ | exact List.sublist_append_left _ _) (pv_field0 fa_27_0 rfl (r := 0) rfl) rfl ?_
                  refine dr_take 10 rfl (by kernel_rfl) (by first | exact List.Sublist.refl _ | exact List.sublist_append_left _ _) (by exact pv_load ld_3 rfl (box_cell .z .z)) rfl ?_
                  refine dr_take 12 rfl (by kernel_rfl) (by first | exact List.Sublist.refl _ | exact List.sublist_append_left _ _) (pv_field0 fa_27_4 rfl (r := 4) rfl) rfl ?_
                  refine dr_take 13 rfl (by kernel_rfl) (by first | exact List.Sublist.refl _ | exact List.sublist_append_left _ _) (by exact pv_load ld_3 rfl (box_cell .z (.s (.s (.s (.s .z)))))) rfl ?_
                  refine dr_take 14 rfl (by kernel_rfl) (by first | exact List.Sublist.refl _ | exact List.sublist_append_left _ _) (pv_field0 fa_27_5 rfl (r := 5) rfl) rfl ?_
                  refine dr_take 15 rfl (by kernel_rfl) (by first | exact List.Sublist.refl _ | exact List.sublist_append_left _ _) (by exact pv_load ld_3 rfl (box_cell .z (.s (.s (.s (.s (.s .z))))))) rfl ?_
                  refine dr_take 16 rfl (by kernel_rfl) (by first | exact List.Sublist.refl _ | exact List.sublist_append_left _ _) (pv_field0 fa_27_6 rfl (r := 6) rfl) rfl ?_
                  refine dr_take 17 rfl (by kernel_rfl) (by first | exact List.Sublist.refl _ | exact List.sublist_append_left _ _) (by exact pv_load ld_3 rfl (box_cell .z (.s (.s (.s (.s (.s (.s .z)))))))) rfl ?_
                  refine dr_take 18 rfl (by kernel_rfl) (by first | exact List.Sublist.refl _ | exact List.sublist_append_left _ _) (pv_field0 fa_27_2 rfl (r := 2) rfl) rfl ?_
                  refine dr_take 19 rfl (by kernel_rfl) (by first | exact List.Sublist.refl _ | exact List.sublist_append_left _ _) (by exact pv_load ld_3 rfl (box_cell .z (.s (.s .z)))) rfl ?_
                  refine dr_take 20 rfl (by kernel_rfl) (by first | exact List.Sublist.refl _ | exact List.sublist_append_left _ _) (pv_field0 fa_27_0 rfl (r := 0) rfl) rfl ?_
                  refine dr_take 21 rfl (by kernel_rfl) (by first | exact List.Sublist.refl _ | exact List.sublist_append_left _ _) (by exact pv_load ld_3 rfl (box_cell .z .z)) rfl ?_
                  refine dr_one 6 (by kernel_rfl) rfl ?_
                  refine at_does (does_val cal13 rfl rfl rfl (fun w hs => frames_any _ _ _ w)) rfl (fun _ => ?_)
                  refine at_nil (dr_next (fun _ => (by first | exact List.Sublist.refl _ | exact List.sublist_append_left _ _)) ?_)
                  refine dr_one 11 (by kernel_rfl) rfl ?_
                  refine at_does (does_val cal13 rfl rfl rfl (fun w hs => frames_any _ _ _ w)) rfl (fun _ => ?_)
                  refine at_nil (dr_next (fun _ => (by first | exact List.Sublist.refl _ | exact List.sublist_append_left _ _)) ?_)
                  refine dr_one 22 (by kernel_rfl) rfl ?_
                  refine at_does (does_val cal13 rfl rfl rfl (fun w hs => frames_any _ _ _ w)) rfl (fun _ => ?_)
                  refine at_nil (dr_next (fun _ => (by first | exact List.Sublist.refl _ | exact List.sublist_append_left _ _)) ?_)
                  refine dr_take 23 rfl (by kernel_rfl) (by first | exact List.Sublist.refl _ | exact List.sublist_append_left _ _) (pv_build rfl (bu_29_0_1_2_3_4 _ _ _ _ _)) rfl ?_
                  refine dr_one 24 (by kernel_rfl) rfl ?_
                  refine at_turns (by exact turns_store sz_29 rfl rfl .agg rfl rfl (.s .z) (.rep (.rep (.rep (.rep (.rep .done))))) (.s .z)) ?_
                  refine at_nil (dr_next (fun h => by cases h) ?_)
                  refine dr_one 25 (by kernel_rfl) rfl ?_
                  refine at_pure (pv_assign rfl) rfl ?_
                  refine at_nil (dr_next (fun h => by cases h) ?_)
                  refine dr_done (by kernel_rfl) ?_
                  refine ex_go ?_
                  refine cd_ret ?_
                  exact end_ct rfl (by exact Lies.box ag_29 rfl (.s .z) rfl) rfl (fun w hs => ⟨by clear hs; first | (have z : ofOk a b c d e f g = false := (by first | (simp_all [ofOk]; done) | (simp_all [ofOk]; omega)); rw [z]; rfl) | (have z : ofOk a b c d e f g = true := (by first | (simp_all [ofOk]; done) | (simp_all [ofOk]; omega)); rw [z]; rfl), hs.keep⟩)

theorem of_ref (a b c d e f g : Int) (w : World) : Calls Try.prog 16 [.agg #[.int .i64 a, .int .i64 b, .int .i64 c, .int .i64 d, .int .i64 e, .int .i64 f, .int .i64 g]].toArray w (Val (.tuple #[.agg #[.int .i64 (sel (ofOk a b c d e f g) (frames d b a) 0), .int .i64 (sel (ofOk a b c d e f g) (frames 2 b a) 0), .int .i64 (sel (ofOk a b c d e f g) e 0), .int .i64 (sel (ofOk a b c d e f g) f 0), .int .i64 (sel (ofOk a b c d e f g) (frames g c a) 0)], .int .i64 (sel (ofOk a b c d e f g) 0 2)]) w) := by
  refine calls_body (n := 73) Try.func16 rfl rfl rfl (St.init _ []) ?_
  refine cd_seq ?_
  refine cd_region ?_
  refine at_does (does_box rfl .agg (fun _ => .nil)) rfl (fun g1 => ?_)
  refine at_does (does_alloc ze_29 .agg (fun _ => (.cons .nil))) rfl (fun g2 => ?_)
  refine at_pure (pv_assign rfl) rfl ?_
  refine at_nil ?_
  refine ex_go ?_
  refine cd_seq ?_
  refine cd_seq ?_
  refine cd_region ?_
  refine at_pure (pv_field0 fa_27_0 rfl (r := 0) rfl) rfl ?_
  refine at_pure (by exact pv_load ld_3 rfl (box_cell .z .z)) rfl ?_
  refine at_does (does_val cal50 rfl rfl rfl (fun w hs => rate_ref _ w)) rfl (fun _ => ?_)
  refine at_pure (pv_not rfl) rfl ?_
  refine at_pure (pv_move rfl) rfl ?_
  refine at_split 8 rfl (fun hb1 => ?_) (fun hb1 => ?_)
  · skip
    refine at_skip rfl rfl hb1 rfl ?_
    refine at_skip rfl rfl hb1 rfl ?_
    refine at_skip rfl rfl hb1 rfl ?_
    refine at_skip rfl rfl hb1 rfl ?_
    refine at_pure (pv_pick_t rfl hb1 rfl) rfl ?_
    refine at_pure (pv_move rfl) rfl ?_
    refine at_skip rfl rfl rfl rfl ?_
    refine at_skip rfl rfl rfl rfl ?_
    refine at_skip rfl rfl rfl rfl ?_
    refine at_skip rfl rfl rfl rfl ?_
    refine at_pure (pv_pick_t rfl rfl rfl) rfl ?_
    refine at_pure (pv_move rfl) rfl ?_
    refine at_skip rfl rfl rfl rfl ?_
    refine at_skip rfl rfl rfl rfl ?_
    refine at_skip rfl rfl rfl rfl ?_
    refine at_pure (pv_pick_t rfl rfl rfl) rfl ?_
    refine at_pure (pv_move rfl) rfl ?_
    refine at_skip rfl rfl rfl rfl ?_
    refine at_skip rfl rfl rfl rfl ?_
    refine at_skip rfl rfl rfl rfl ?_
    refine at_pure (pv_pick_t rfl rfl rfl) rfl ?_
    refine at_pure (pv_move rfl) rfl ?_
    refine at_skip rfl rfl rfl rfl ?_
    refine at_skip rfl rfl rfl rfl ?_
    refine at_skip rfl rfl rfl rfl ?_
    refine at_skip rfl rfl rfl rfl ?_
    refine at_pure (pv_pick_t rfl rfl rfl) rfl ?_
    refine at_pure (pv_move rfl) rfl ?_
    refine at_skip rfl rfl rfl rfl ?_
    refine at_skip rfl rfl rfl rfl ?_
    refine at_skip rfl rfl rfl rfl ?_
    refine at_skip rfl rfl rfl rfl ?_
    refine at_pure (pv_pick_t rfl rfl rfl) rfl ?_
    refine at_pure (pv_move rfl) rfl ?_
    refine at_skip rfl rfl rfl rfl ?_
    refine at_skip rfl rfl rfl rfl ?_
    refine at_skip rfl rfl rfl rfl ?_
    refine at_skip rfl rfl rfl rfl ?_
    refine at_pure (pv_pick_t rfl rfl rfl) rfl ?_
    refine at_nil ?_
    refine ex_go ?_
    refine cd_then rfl rfl ?_
    refine cd_seq ?_
    refine cd_region ?_
    refine at_pure (pv_build rfl (bu_29_)) rfl ?_
    refine at_turns (by exact turns_store sz_29 rfl rfl .agg rfl rfl (.s .z) (.rep (.rep (.rep (.rep (.rep .done))))) (.s .z)) ?_
    refine at_pure (pv_assign rfl) rfl ?_
    refine at_nil ?_
    refine ex_go ?_
    refine cd_ret ?_
    refine ex_then_ret ?_
    exact end_ct rfl (by exact Lies.box ag_29 rfl (.s .z) rfl) rfl (fun w hs => ⟨by clear hs; first | (have z : ofOk a b c d e f g = false := (by first | (simp_all [ofOk]; done) | (simp_all [ofOk]; omega)); rw [z]; rfl) | (have z : ofOk a b c d e f g = true := (by first | (simp_all [ofOk]; done) | (simp_all [ofOk]; omega)); rw [z]; rfl), hs.keep⟩)
  · skip
    refine at_pure_g rfl rfl hb1 (pv_field0 fa_27_1 rfl (r := 1) rfl) rfl ?_
    refine at_pure_g rfl rfl hb1 (by exact pv_load ld_3 rfl (box_cell .z (.s .z))) rfl ?_
    refine at_does_g rfl rfl hb1 (does_val cal50 rfl rfl rfl (fun w hs => rate_ref _ w)) rfl (fun _ => ?_)
    refine at_pure_g rfl rfl hb1 (pv_not rfl) rfl ?_
    refine at_pure (pv_pick_f rfl hb1 rfl) rfl ?_
    refine at_pure (pv_move rfl) rfl ?_
    refine at_split 14 rfl (fun hb2 => ?_) (fun hb2 => ?_)
    · skip
      refine at_skip rfl rfl hb2 rfl ?_
      refine at_skip rfl rfl hb2 rfl ?_
      refine at_skip rfl rfl hb2 rfl ?_
      refine at_skip rfl rfl hb2 rfl ?_
      refine at_pure (pv_pick_t rfl hb2 rfl) rfl ?_
      refine at_pure (pv_move rfl) rfl ?_
      refine at_skip rfl rfl rfl rfl ?_
      refine at_skip rfl rfl rfl rfl ?_
      refine at_skip rfl rfl rfl rfl ?_
      refine at_pure (pv_pick_t rfl rfl rfl) rfl ?_
      refine at_pure (pv_move rfl) rfl ?_
      refine at_skip rfl rfl rfl rfl ?_
      refine at_skip rfl rfl rfl rfl ?_
      refine at_skip rfl rfl rfl rfl ?_
      refine at_pure (pv_pick_t rfl rfl rfl) rfl ?_
      refine at_pure (pv_move rfl) rfl ?_
      refine at_skip rfl rfl rfl rfl ?_
      refine at_skip rfl rfl rfl rfl ?_
      refine at_skip rfl rfl rfl rfl ?_
      refine at_skip rfl rfl rfl rfl ?_
      refine at_pure (pv_pick_t rfl rfl rfl) rfl ?_
      refine at_pure (pv_move rfl) rfl ?_
      refine at_skip rfl rfl rfl rfl ?_
      refine at_skip rfl rfl rfl rfl ?_
      refine at_skip rfl rfl rfl rfl ?_
      refine at_skip rfl rfl rfl rfl ?_
      refine at_pure (pv_pick_t rfl rfl rfl) rfl ?_
      refine at_pure (pv_move rfl) rfl ?_
      refine at_skip rfl rfl rfl rfl ?_
      refine at_skip rfl rfl rfl rfl ?_
      refine at_skip rfl rfl rfl rfl ?_
      refine at_skip rfl rfl rfl rfl ?_
      refine at_pure (pv_pick_t rfl rfl rfl) rfl ?_
      refine at_nil ?_
      refine ex_go ?_
      refine cd_then rfl rfl ?_
      refine cd_seq ?_
      refine cd_region ?_
      refine at_pure (pv_build rfl (bu_29_)) rfl ?_
      refine at_turns (by exact turns_store sz_29 rfl rfl .agg rfl rfl (.s .z) (.rep (.rep (.rep (.rep (.rep .done))))) (.s .z)) ?_
      refine at_pure (pv_assign rfl) rfl ?_
      refine at_nil ?_
      refine ex_go ?_
      refine cd_ret ?_
      refine ex_then_ret ?_
      exact end_ct rfl (by exact Lies.box ag_29 rfl (.s .z) rfl) rfl (fun w hs => ⟨by clear hs; first | (have z : ofOk a b c d e f g = false := (by first | (simp_all [ofOk]; done) | (simp_all [ofOk]; omega)); rw [z]; rfl) | (have z : ofOk a b c d e f g = true := (by first | (simp_all [ofOk]; done) | (simp_all [ofOk]; omega)); rw [z]; rfl), hs.keep⟩)
    · skip
      refine at_pure_g rfl rfl hb2 (pv_field0 fa_27_2 rfl (r := 2) rfl) rfl ?_
      refine at_pure_g rfl rfl hb2 (by exact pv_load ld_3 rfl (box_cell .z (.s (.s .z)))) rfl ?_
      refine at_does_g rfl rfl hb2 (does_val cal50 rfl rfl rfl (fun w hs => rate_ref _ w)) rfl (fun _ => ?_)
      refine at_pure_g rfl rfl hb2 (pv_not rfl) rfl ?_
      refine at_pure (pv_pick_f rfl hb2 rfl) rfl ?_
      refine at_pure (pv_move rfl) rfl ?_
      refine at_split 20 rfl (fun hb3 => ?_) (fun hb3 => ?_)
      · skip
        refine at_skip rfl rfl hb3 rfl ?_
        refine at_skip rfl rfl hb3 rfl ?_
        refine at_skip rfl rfl hb3 rfl ?_
        refine at_pure (pv_pick_t rfl hb3 rfl) rfl ?_
        refine at_pure (pv_move rfl) rfl ?_
        refine at_skip rfl rfl rfl rfl ?_
        refine at_skip rfl rfl rfl rfl ?_
        refine at_skip rfl rfl rfl rfl ?_
        refine at_pure (pv_pick_t rfl rfl rfl) rfl ?_
        refine at_pure (pv_move rfl) rfl ?_
        refine at_skip rfl rfl rfl rfl ?_
        refine at_skip rfl rfl rfl rfl ?_
        refine at_skip rfl rfl rfl rfl ?_
        refine at_skip rfl rfl rfl rfl ?_
        refine at_pure (pv_pick_t rfl rfl rfl) rfl ?_
        refine at_pure (pv_move rfl) rfl ?_
        refine at_skip rfl rfl rfl rfl ?_
        refine at_skip rfl rfl rfl rfl ?_
        refine at_skip rfl rfl rfl rfl ?_
        refine at_skip rfl rfl rfl rfl ?_
        refine at_pure (pv_pick_t rfl rfl rfl) rfl ?_
        refine at_pure (pv_move rfl) rfl ?_
        refine at_skip rfl rfl rfl rfl ?_
        refine at_skip rfl rfl rfl rfl ?_
        refine at_skip rfl rfl rfl rfl ?_
        refine at_skip rfl rfl rfl rfl ?_
        refine at_pure (pv_pick_t rfl rfl rfl) rfl ?_
        refine at_nil ?_
        refine ex_go ?_
        refine cd_then rfl rfl ?_
        refine cd_seq ?_
        refine cd_region ?_
        refine at_pure (pv_build rfl (bu_29_)) rfl ?_
        refine at_turns (by exact turns_store sz_29 rfl rfl .agg rfl rfl (.s .z) (.rep (.rep (.rep (.rep (.rep .done))))) (.s .z)) ?_
        refine at_pure (pv_assign rfl) rfl ?_
        refine at_nil ?_
        refine ex_go ?_
        refine cd_ret ?_
        refine ex_then_ret ?_
        exact end_ct rfl (by exact Lies.box ag_29 rfl (.s .z) rfl) rfl (fun w hs => ⟨by clear hs; first | (have z : ofOk a b c d e f g = false := (by first | (simp_all [ofOk]; done) | (simp_all [ofOk]; omega)); rw [z]; rfl) | (have z : ofOk a b c d e f g = true := (by first | (simp_all [ofOk]; done) | (simp_all [ofOk]; omega)); rw [z]; rfl), hs.keep⟩)
      · skip
        refine at_pure_g rfl rfl hb3 (pv_field0 fa_27_4 rfl (r := 4) rfl) rfl ?_
        refine at_pure_g rfl rfl hb3 (by exact pv_load ld_3 rfl (box_cell .z (.s (.s (.s (.s .z)))))) rfl ?_
        refine at_pure_g rfl rfl hb3 (pv_lss rfl rfl) rfl ?_
        refine at_pure (pv_pick_f rfl hb3 rfl) rfl ?_
        refine at_pure (pv_move rfl) rfl ?_
        refine at_split 25 rfl (fun hb4 => ?_) (fun hb4 => ?_)
        · skip
          refine at_skip rfl rfl hb4 rfl ?_
          refine at_skip rfl rfl hb4 rfl ?_
          refine at_skip rfl rfl hb4 rfl ?_
          refine at_pure (pv_pick_t rfl hb4 rfl) rfl ?_
          refine at_pure (pv_move rfl) rfl ?_
          refine at_skip rfl rfl rfl rfl ?_
          refine at_skip rfl rfl rfl rfl ?_
          refine at_skip rfl rfl rfl rfl ?_
          refine at_skip rfl rfl rfl rfl ?_
          refine at_pure (pv_pick_t rfl rfl rfl) rfl ?_
          refine at_pure (pv_move rfl) rfl ?_
          refine at_skip rfl rfl rfl rfl ?_
          refine at_skip rfl rfl rfl rfl ?_
          refine at_skip rfl rfl rfl rfl ?_
          refine at_skip rfl rfl rfl rfl ?_
          refine at_pure (pv_pick_t rfl rfl rfl) rfl ?_
          refine at_pure (pv_move rfl) rfl ?_
          refine at_skip rfl rfl rfl rfl ?_
          refine at_skip rfl rfl rfl rfl ?_
          refine at_skip rfl rfl rfl rfl ?_
          refine at_skip rfl rfl rfl rfl ?_
          refine at_pure (pv_pick_t rfl rfl rfl) rfl ?_
          refine at_nil ?_
          refine ex_go ?_
          refine cd_then rfl rfl ?_
          refine cd_seq ?_
          refine cd_region ?_
          refine at_pure (pv_build rfl (bu_29_)) rfl ?_
          refine at_turns (by exact turns_store sz_29 rfl rfl .agg rfl rfl (.s .z) (.rep (.rep (.rep (.rep (.rep .done))))) (.s .z)) ?_
          refine at_pure (pv_assign rfl) rfl ?_
          refine at_nil ?_
          refine ex_go ?_
          refine cd_ret ?_
          refine ex_then_ret ?_
          exact end_ct rfl (by exact Lies.box ag_29 rfl (.s .z) rfl) rfl (fun w hs => ⟨by clear hs; first | (have z : ofOk a b c d e f g = false := (by first | (simp_all [ofOk]; done) | (simp_all [ofOk]; omega)); rw [z]; rfl) | (have z : ofOk a b c d e f g = true := (by first | (simp_all [ofOk]; done) | (simp_all [ofOk]; omega)); rw [z]; rfl), hs.keep⟩)
        · skip
          refine at_pure_g rfl rfl hb4 (pv_field0 fa_27_4 rfl (r := 4) rfl) rfl ?_
          refine at_pure_g rfl rfl hb4 (by exact pv_load ld_3 rfl (box_cell .z (.s (.s (.s (.s .z)))))) rfl ?_
          refine at_pure_g rfl rfl hb4 (pv_gtr rfl rfl) rfl ?_
          refine at_pure (pv_pick_f rfl hb4 rfl) rfl ?_
          refine at_pure (pv_move rfl) rfl ?_
          refine at_split 30 rfl (fun hb5 => ?_) (fun hb5 => ?_)
          · skip
            refine at_skip rfl rfl hb5 rfl ?_
            refine at_skip rfl rfl hb5 rfl ?_
            refine at_skip rfl rfl hb5 rfl ?_
            refine at_skip rfl rfl hb5 rfl ?_
            refine at_pure (pv_pick_t rfl hb5 rfl) rfl ?_
            refine at_pure (pv_move rfl) rfl ?_
            refine at_skip rfl rfl rfl rfl ?_
            refine at_skip rfl rfl rfl rfl ?_
            refine at_skip rfl rfl rfl rfl ?_
            refine at_skip rfl rfl rfl rfl ?_
            refine at_pure (pv_pick_t rfl rfl rfl) rfl ?_
            refine at_pure (pv_move rfl) rfl ?_
            refine at_skip rfl rfl rfl rfl ?_
            refine at_skip rfl rfl rfl rfl ?_
            refine at_skip rfl rfl rfl rfl ?_
            refine at_skip rfl rfl rfl rfl ?_
            refine at_pure (pv_pick_t rfl rfl rfl) rfl ?_
            refine at_nil ?_
            refine ex_go ?_
            refine cd_then rfl rfl ?_
            refine cd_seq ?_
            refine cd_region ?_
            refine at_pure (pv_build rfl (bu_29_)) rfl ?_
            refine at_turns (by exact turns_store sz_29 rfl rfl .agg rfl rfl (.s .z) (.rep (.rep (.rep (.rep (.rep .done))))) (.s .z)) ?_
            refine at_pure (pv_assign rfl) rfl ?_
            refine at_nil ?_
            refine ex_go ?_
            refine cd_ret ?_
            refine ex_then_ret ?_
            exact end_ct rfl (by exact Lies.box ag_29 rfl (.s .z) rfl) rfl (fun w hs => ⟨by clear hs; first | (have z : ofOk a b c d e f g = false := (by first | (simp_all [ofOk]; done) | (simp_all [ofOk]; omega)); rw [z]; rfl) | (have z : ofOk a b c d e f g = true := (by first | (simp_all [ofOk]; done) | (simp_all [ofOk]; omega)); rw [z]; rfl), hs.keep⟩)
          · skip
            refine at_pure_g rfl rfl hb5 (pv_field0 fa_27_3 rfl (r := 3) rfl) rfl ?_
            refine at_pure_g rfl rfl hb5 (by exact pv_load ld_3 rfl (box_cell .z (.s (.s (.s .z))))) rfl ?_
            refine at_does_g rfl rfl hb5 (does_val cal49 rfl rfl rfl (fun w hs => many_ref _ w)) rfl (fun _ => ?_)
            refine at_pure_g rfl rfl hb5 (pv_not rfl) rfl ?_
            refine at_pure (pv_pick_f rfl hb5 rfl) rfl ?_
            refine at_pure (pv_move rfl) rfl ?_
            refine at_split 36 rfl (fun hb6 => ?_) (fun hb6 => ?_)
            · skip
              refine at_skip rfl rfl hb6 rfl ?_
              refine at_skip rfl rfl hb6 rfl ?_
              refine at_skip rfl rfl hb6 rfl ?_
              refine at_skip rfl rfl hb6 rfl ?_
              refine at_pure (pv_pick_t rfl hb6 rfl) rfl ?_
              refine at_pure (pv_move rfl) rfl ?_
              refine at_skip rfl rfl rfl rfl ?_
              refine at_skip rfl rfl rfl rfl ?_
              refine at_skip rfl rfl rfl rfl ?_
              refine at_skip rfl rfl rfl rfl ?_
              refine at_pure (pv_pick_t rfl rfl rfl) rfl ?_
              refine at_nil ?_
              refine ex_go ?_
              refine cd_then rfl rfl ?_
              refine cd_seq ?_
              refine cd_region ?_
              refine at_pure (pv_build rfl (bu_29_)) rfl ?_
              refine at_turns (by exact turns_store sz_29 rfl rfl .agg rfl rfl (.s .z) (.rep (.rep (.rep (.rep (.rep .done))))) (.s .z)) ?_
              refine at_pure (pv_assign rfl) rfl ?_
              refine at_nil ?_
              refine ex_go ?_
              refine cd_ret ?_
              refine ex_then_ret ?_
              exact end_ct rfl (by exact Lies.box ag_29 rfl (.s .z) rfl) rfl (fun w hs => ⟨by clear hs; first | (have z : ofOk a b c d e f g = false := (by first | (simp_all [ofOk]; done) | (simp_all [ofOk]; omega)); rw [z]; rfl) | (have z : ofOk a b c d e f g = true := (by first | (simp_all [ofOk]; done) | (simp_all [ofOk]; omega)); rw [z]; rfl), hs.keep⟩)
            · skip
              refine at_pure_g rfl rfl hb6 (pv_field0 fa_27_5 rfl (r := 5) rfl) rfl ?_
              refine at_pure_g rfl rfl hb6 (by exact pv_load ld_3 rfl (box_cell .z (.s (.s (.s (.s (.s .z))))))) rfl ?_
              refine at_does_g rfl rfl hb6 (does_val cal49 rfl rfl rfl (fun w hs => many_ref _ w)) rfl (fun _ => ?_)
              refine at_pure_g rfl rfl hb6 (pv_not rfl) rfl ?_
              refine at_pure (pv_pick_f rfl hb6 rfl) rfl ?_
              refine at_pure (pv_move rfl) rfl ?_
              refine at_split 42 rfl (fun hb7 => ?_) (fun hb7 => ?_)
              · skip
                refine at_skip rfl rfl hb7 rfl ?_
                refine at_skip rfl rfl hb7 rfl ?_
                refine at_skip rfl rfl hb7 rfl ?_
                refine at_skip rfl rfl hb7 rfl ?_
                refine at_pure (pv_pick_t rfl hb7 rfl) rfl ?_
                refine at_nil ?_
                refine ex_go ?_
                refine cd_then rfl rfl ?_
                refine cd_seq ?_
                refine cd_region ?_
                refine at_pure (pv_build rfl (bu_29_)) rfl ?_
                refine at_turns (by exact turns_store sz_29 rfl rfl .agg rfl rfl (.s .z) (.rep (.rep (.rep (.rep (.rep .done))))) (.s .z)) ?_
                refine at_pure (pv_assign rfl) rfl ?_
                refine at_nil ?_
                refine ex_go ?_
                refine cd_ret ?_
                refine ex_then_ret ?_
                exact end_ct rfl (by exact Lies.box ag_29 rfl (.s .z) rfl) rfl (fun w hs => ⟨by clear hs; first | (have z : ofOk a b c d e f g = false := (by first | (simp_all [ofOk]; done) | (simp_all [ofOk]; omega)); rw [z]; rfl) | (have z : ofOk a b c d e f g = true := (by first | (simp_all [ofOk]; done) | (simp_all [ofOk]; omega)); rw [z]; rfl), hs.keep⟩)
              · skip
                refine at_pure_g rfl rfl hb7 (pv_field0 fa_27_6 rfl (r := 6) rfl) rfl ?_
                refine at_pure_g rfl rfl hb7 (by exact pv_load ld_3 rfl (box_cell .z (.s (.s (.s (.s (.s (.s .z)))))))) rfl ?_
                refine at_does_g rfl rfl hb7 (does_val cal49 rfl rfl rfl (fun w hs => many_ref _ w)) rfl (fun _ => ?_)
                refine at_pure_g rfl rfl hb7 (pv_not rfl) rfl ?_
                refine at_pure (pv_pick_f rfl hb7 rfl) rfl ?_
                refine at_nil ?_
                refine ex_go ?_
                refine cd_if rfl (fun hb8 => ?_) (fun hb8 => ?_)
                · skip
                  refine cd_seq ?_
                  refine cd_region ?_
                  refine at_pure (pv_build rfl (bu_29_)) rfl ?_
                  refine at_turns (by exact turns_store sz_29 rfl rfl .agg rfl rfl (.s .z) (.rep (.rep (.rep (.rep (.rep .done))))) (.s .z)) ?_
                  refine at_pure (pv_assign rfl) rfl ?_
                  refine at_nil ?_
                  refine ex_go ?_
                  refine cd_ret ?_
                  refine ex_then_ret ?_
                  exact end_ct rfl (by exact Lies.box ag_29 rfl (.s .z) rfl) rfl (fun w hs => ⟨by clear hs; first | (have z : ofOk a b c d e f g = false := (by first | (simp_all [ofOk]; done) | (simp_all [ofOk]; omega)); rw [z]; rfl) | (have z : ofOk a b c d e f g = true := (by first | (simp_all [ofOk]; done) | (simp_all [ofOk]; omega)); rw [z]; rfl), hs.keep⟩)
                · skip
                  refine cd_skip ?_
                  refine ex_go ?_
                  refine cd_seq ?_
                  refine cd_draw' 24 follows ?_
                  refine dr_take 0 rfl (by kernel_rfl) (by first | exact List.Sublist.refl _ | exact List.sublist_append_left _ _) (pv_field0 fa_27_3 rfl (r := 3) rfl) rfl ?_
                  refine dr_take 1 rfl (by kernel_rfl) (by first | exact List.Sublist.refl _ | exact List.sublist_append_left _ _) (by exact pv_load ld_3 rfl (box_cell .z (.s (.s (.s .z))))) rfl ?_
                  refine dr_take 2 rfl (by kernel_rfl) (by first | exact List.Sublist.refl _ | exact List.sublist_append_left _ _) (pv_field0 fa_27_1 rfl (r := 1) rfl) rfl ?_
                  refine dr_take 3 rfl (by kernel_rfl) (by first | exact List.Sublist.refl _ | exact List.sublist_append_left _ _) (by exact pv_load ld_3 rfl (box_cell .z (.s .z))) rfl ?_
                  refine dr_take 4 rfl (by kernel_rfl) (by first | exact List.Sublist.refl _ | exact List.sublist_append_left _ _) (pv_field0 fa_27_0 rfl (r := 0) rfl) rfl ?_
                  refine dr_take 5 rfl (by kernel_rfl) (by first | exact List.Sublist.refl _ | exact List.sublist_append_left _ _) (by exact pv_load ld_3 rfl (box_cell .z .z)) rfl ?_
                  refine dr_take 7 rfl (by kernel_rfl) (by first | exact List.Sublist.refl _ | exact List.sublist_append_left _ _) (pv_field0 fa_27_1 rfl (r := 1) rfl) rfl ?_
                  refine dr_take 8 rfl (by kernel_rfl) (by first | exact List.Sublist.refl _ | exact List.sublist_append_left _ _) (by exact pv_load ld_3 rfl (box_cell .z (.s .z))) rfl ?_
                  refine dr_take 9 rfl (by kernel_rfl) (by first | exact List.Sublist.refl _ | exact List.sublist_append_left _ _) (pv_field0 fa_27_0 rfl (r := 0) rfl) rfl ?_
                  refine dr_take 10 rfl (by kernel_rfl) (by first | exact List.Sublist.refl _ | exact List.sublist_append_left _ _) (by exact pv_load ld_3 rfl (box_cell .z .z)) rfl ?_
                  refine dr_take 12 rfl (by kernel_rfl) (by first | exact List.Sublist.refl _ | exact List.sublist_append_left _ _) (pv_field0 fa_27_4 rfl (r := 4) rfl) rfl ?_
                  refine dr_take 13 rfl (by kernel_rfl) (by first | exact List.Sublist.refl _ | exact List.sublist_append_left _ _) (by exact pv_load ld_3 rfl (box_cell .z (.s (.s (.s (.s .z)))))) rfl ?_
                  refine dr_take 14 rfl (by kernel_rfl) (by first | exact List.Sublist.refl _ | exact List.sublist_append_left _ _) (pv_field0 fa_27_5 rfl (r := 5) rfl) rfl ?_
                  refine dr_take 15 rfl (by kernel_rfl) (by first | exact List.Sublist.refl _ | exact List.sublist_append_left _ _) (by exact pv_load ld_3 rfl (box_cell .z (.s (.s (.s (.s (.s .z))))))) rfl ?_
                  refine dr_take 16 rfl (by kernel_rfl) (by first | exact List.Sublist.refl _ | exact List.sublist_append_left _ _) (pv_field0 fa_27_6 rfl (r := 6) rfl) rfl ?_
                  refine dr_take 17 rfl (by kernel_rfl) (by first | exact List.Sublist.refl _ | exact List.sublist_append_left _ _) (by exact pv_load ld_3 rfl (box_cell .z (.s (.s (.s (.s (.s (.s .z)))))))) rfl ?_
                  refine dr_take 18 rfl (by kernel_rfl) (by first | exact List.Sublist.refl _ | exact List.sublist_append_left _ _) (pv_field0 fa_27_2 rfl (r := 2) rfl) rfl ?_
                  refine dr_take 19 rfl (by kernel_rfl) (by first | exact List.Sublist.refl _ | exact List.sublist_append_left _ _) (by exact pv_load ld_3 rfl (box_cell .z (.s (.s .z)))) rfl ?_
                  refine dr_take 20 rfl (by kernel_rfl) (by first | exact List.Sublist.refl _ | exact List.sublist_append_left _ _) (pv_field0 fa_27_0 rfl (r := 0) rfl) rfl ?_
                  refine dr_take 21 rfl (by kernel_rfl) (by first | exact List.Sublist.refl _ | exact List.sublist_append_left _ _) (by exact pv_load ld_3 rfl (box_cell .z .z)) rfl ?_
                  refine dr_one 6 (by kernel_rfl) rfl ?_
                  refine at_does (does_val cal14 rfl rfl rfl (fun w hs => frames_ref _ _ _ w)) rfl (fun _ => ?_)
                  refine at_nil (dr_next (fun _ => (by first | exact List.Sublist.refl _ | exact List.sublist_append_left _ _)) ?_)
                  refine dr_one 11 (by kernel_rfl) rfl ?_
                  refine at_does (does_val cal14 rfl rfl rfl (fun w hs => frames_ref _ _ _ w)) rfl (fun _ => ?_)
                  refine at_nil (dr_next (fun _ => (by first | exact List.Sublist.refl _ | exact List.sublist_append_left _ _)) ?_)
                  refine dr_one 22 (by kernel_rfl) rfl ?_
                  refine at_does (does_val cal14 rfl rfl rfl (fun w hs => frames_ref _ _ _ w)) rfl (fun _ => ?_)
                  refine at_nil (dr_next (fun _ => (by first | exact List.Sublist.refl _ | exact List.sublist_append_left _ _)) ?_)
                  refine dr_take 23 rfl (by kernel_rfl) (by first | exact List.Sublist.refl _ | exact List.sublist_append_left _ _) (pv_build rfl (bu_29_0_1_2_3_4 _ _ _ _ _)) rfl ?_
                  refine dr_one 24 (by kernel_rfl) rfl ?_
                  refine at_turns (by exact turns_store sz_29 rfl rfl .agg rfl rfl (.s .z) (.rep (.rep (.rep (.rep (.rep .done))))) (.s .z)) ?_
                  refine at_nil (dr_next (fun h => by cases h) ?_)
                  refine dr_one 25 (by kernel_rfl) rfl ?_
                  refine at_pure (pv_assign rfl) rfl ?_
                  refine at_nil (dr_next (fun h => by cases h) ?_)
                  refine dr_done (by kernel_rfl) ?_
                  refine ex_go ?_
                  refine cd_ret ?_
                  exact end_ct rfl (by exact Lies.box ag_29 rfl (.s .z) rfl) rfl (fun w hs => ⟨by clear hs; first | (have z : ofOk a b c d e f g = false := (by first | (simp_all [ofOk]; done) | (simp_all [ofOk]; omega)); rw [z]; rfl) | (have z : ofOk a b c d e f g = true := (by first | (simp_all [ofOk]; done) | (simp_all [ofOk]; omega)); rw [z]; rfl), hs.keep⟩)

theorem total_any (a b c d e : Int) (w : World) : Calls Try.prog 17 [.agg #[.int .i64 a, .int .i64 b, .int .i64 c, .int .i64 d, .int .i64 e]].toArray w (Val (.int .i64 (totalI a b c d e)) w) := by
  refine calls_body (n := 31) Try.func17 rfl rfl rfl (St.init _ []) ?_
  refine cd_seq ?_
  refine cd_region ?_
  refine at_does (does_box rfl .agg (fun _ => .nil)) rfl (fun g1 => ?_)
  refine at_pure (pv_assign rfl) rfl ?_
  refine at_nil ?_
  refine ex_go ?_
  refine cd_seq ?_
  refine cd_region ?_
  refine at_pure (pv_assign rfl) rfl ?_
  refine at_nil ?_
  refine ex_go ?_
  refine cd_seq ?_
  refine cd_seq ?_
  refine cd_region ?_
  refine at_pure (pv_field0 fa_29_0 rfl (r := 0) rfl) rfl ?_
  refine at_pure (by exact pv_load ld_3 rfl (box_cell .z .z)) rfl ?_
  refine at_pure (pv_field0 fa_29_1 rfl (r := 1) rfl) rfl ?_
  refine at_pure (by exact pv_load ld_3 rfl (box_cell .z (.s .z))) rfl ?_
  refine at_pure (pv_field0 fa_29_2 rfl (r := 2) rfl) rfl ?_
  refine at_pure (by exact pv_load ld_3 rfl (box_cell .z (.s (.s .z)))) rfl ?_
  refine at_pure (pv_field0 fa_29_3 rfl (r := 3) rfl) rfl ?_
  refine at_pure (by exact pv_load ld_3 rfl (box_cell .z (.s (.s (.s .z))))) rfl ?_
  refine at_pure (pv_field0 fa_29_4 rfl (r := 4) rfl) rfl ?_
  refine at_pure (by exact pv_load ld_3 rfl (box_cell .z (.s (.s (.s (.s .z)))))) rfl ?_
  refine at_pure (pv_build rfl (bu_72_0_1_2_3_4 _ _ _ _ _)) rfl ?_
  refine at_pure (pv_move rfl) rfl ?_
  refine at_nil ?_
  refine ex_go ?_
  refine cd_block ?_
  refine cd_rounds 5 ?_
  refine cd_seq ?_
  refine cd_region ?_
  refine at_pure (pv_lss rfl rfl) rfl ?_
  refine at_nil ?_
  refine ex_go ?_
  refine cd_seq ?_
  refine cd_then rfl (by decide) ?_
  refine cd_skip ?_
  refine ex_go ?_
  refine cd_seq ?_
  refine cd_block ?_
  refine cd_seq ?_
  refine cd_region ?_
  refine at_pure (pv_arr Try.underlying72 ld_3 c1_3 rfl rfl (by decide) rfl) rfl ?_
  refine at_pure (pv_assign rfl) rfl ?_
  refine at_nil ?_
  refine ex_go ?_
  refine cd_seq ?_
  refine cd_seq ?_
  refine cd_region ?_
  refine at_pure (pv_move rfl) rfl ?_
  refine at_pure (pv_lss rfl rfl) rfl ?_
  refine at_pure (pv_move rfl) rfl ?_
  refine at_split 22 rfl (fun hb1 => ?_) (fun hb1 => ?_)
  · skip
    refine at_skip rfl rfl hb1 rfl ?_
    refine at_skip rfl rfl hb1 rfl ?_
    refine at_pure (pv_pick_t rfl hb1 rfl) rfl ?_
    refine at_nil ?_
    refine ex_go ?_
    refine cd_then rfl rfl ?_
    refine cd_seq ?_
    refine cd_region ?_
    refine at_pure (pv_assign rfl) rfl ?_
    refine at_nil ?_
    refine ex_go ?_
    refine cd_ret ?_
    refine ex_then_ret (ex_in_ret (ex_then_ret (ex_then_ret (ex_in_ret (ex_then_ret ?_)))))
    exact end_ret1 rfl rfl (fun w hs => ⟨by clear hs; first | (have z : (manyB a && manyB b && manyB c && manyB d && manyB e) = false := (by simp [manyB]; try simp at *; intros; omega); simp [totalI, z, sel]; done) | (have z : (manyB a && manyB b && manyB c && manyB d && manyB e) = true := (by simp [manyB]; try simp at *; omega); simp [totalI, z, sel]; done), hs.keep⟩)
  · skip
    refine at_pure_g rfl rfl hb1 (pv_move rfl) rfl ?_
    refine at_pure_g rfl rfl hb1 (pv_gtr rfl rfl) rfl ?_
    refine at_pure (pv_pick_f rfl hb1 rfl) rfl ?_
    refine at_nil ?_
    refine ex_go ?_
    refine cd_if rfl (fun hb2 => ?_) (fun hb2 => ?_)
    · skip
      refine cd_seq ?_
      refine cd_region ?_
      refine at_pure (pv_assign rfl) rfl ?_
      refine at_nil ?_
      refine ex_go ?_
      refine cd_ret ?_
      refine ex_then_ret (ex_in_ret (ex_then_ret (ex_then_ret (ex_in_ret (ex_then_ret ?_)))))
      exact end_ret1 rfl rfl (fun w hs => ⟨by clear hs; first | (have z : (manyB a && manyB b && manyB c && manyB d && manyB e) = false := (by simp [manyB]; try simp at *; intros; omega); simp [totalI, z, sel]; done) | (have z : (manyB a && manyB b && manyB c && manyB d && manyB e) = true := (by simp [manyB]; try simp at *; omega); simp [totalI, z, sel]; done), hs.keep⟩)
    · skip
      refine cd_skip ?_
      refine ex_go ?_
      simp only [decide_eq_false_iff_not] at *
      refine cd_region ?_
      refine at_pure (pv_move rfl) rfl ?_
      refine at_pure (pv_move rfl) rfl ?_
      refine at_pure (by first | exact pv_add_n rfl rfl (by unfold In64; omega) | exact pv_add rfl rfl) rfl ?_
      refine at_pure (pv_assign rfl) rfl ?_
      refine at_nil ?_
      refine ex_in_normal (ex_go ?_)
      refine cd_region ?_
      refine at_pure (by first | exact pv_add_n rfl rfl (by unfold In64; omega) | exact pv_add rfl rfl) rfl ?_
      refine at_pure (pv_move rfl) rfl ?_
      refine at_nil ?_
      refine ex_round ?_
      refine cd_seq ?_
      refine cd_region ?_
      refine at_pure (pv_lss rfl rfl) rfl ?_
      refine at_nil ?_
      refine ex_go ?_
      refine cd_seq ?_
      refine cd_then rfl (by decide) ?_
      refine cd_skip ?_
      refine ex_go ?_
      refine cd_seq ?_
      refine cd_block ?_
      refine cd_seq ?_
      refine cd_region ?_
      refine at_pure (pv_arr Try.underlying72 ld_3 c1_3 rfl rfl (by decide) rfl) rfl ?_
      refine at_pure (pv_assign rfl) rfl ?_
      refine at_nil ?_
      refine ex_go ?_
      refine cd_seq ?_
      refine cd_seq ?_
      refine cd_region ?_
      refine at_pure (pv_move rfl) rfl ?_
      refine at_pure (pv_lss rfl rfl) rfl ?_
      refine at_pure (pv_move rfl) rfl ?_
      refine at_split 22 rfl (fun hb3 => ?_) (fun hb3 => ?_)
      · skip
        refine at_skip rfl rfl hb3 rfl ?_
        refine at_skip rfl rfl hb3 rfl ?_
        refine at_pure (pv_pick_t rfl hb3 rfl) rfl ?_
        refine at_nil ?_
        refine ex_go ?_
        refine cd_then rfl rfl ?_
        refine cd_seq ?_
        refine cd_region ?_
        refine at_pure (pv_assign rfl) rfl ?_
        refine at_nil ?_
        refine ex_go ?_
        refine cd_ret ?_
        refine ex_then_ret (ex_in_ret (ex_then_ret (ex_then_ret (ex_in_ret (ex_then_ret ?_)))))
        exact end_ret1 rfl rfl (fun w hs => ⟨by clear hs; first | (have z : (manyB a && manyB b && manyB c && manyB d && manyB e) = false := (by simp [manyB]; try simp at *; intros; omega); simp [totalI, z, sel]; done) | (have z : (manyB a && manyB b && manyB c && manyB d && manyB e) = true := (by simp [manyB]; try simp at *; omega); simp [totalI, z, sel]; done), hs.keep⟩)
      · skip
        refine at_pure_g rfl rfl hb3 (pv_move rfl) rfl ?_
        refine at_pure_g rfl rfl hb3 (pv_gtr rfl rfl) rfl ?_
        refine at_pure (pv_pick_f rfl hb3 rfl) rfl ?_
        refine at_nil ?_
        refine ex_go ?_
        refine cd_if rfl (fun hb4 => ?_) (fun hb4 => ?_)
        · skip
          refine cd_seq ?_
          refine cd_region ?_
          refine at_pure (pv_assign rfl) rfl ?_
          refine at_nil ?_
          refine ex_go ?_
          refine cd_ret ?_
          refine ex_then_ret (ex_in_ret (ex_then_ret (ex_then_ret (ex_in_ret (ex_then_ret ?_)))))
          exact end_ret1 rfl rfl (fun w hs => ⟨by clear hs; first | (have z : (manyB a && manyB b && manyB c && manyB d && manyB e) = false := (by simp [manyB]; try simp at *; intros; omega); simp [totalI, z, sel]; done) | (have z : (manyB a && manyB b && manyB c && manyB d && manyB e) = true := (by simp [manyB]; try simp at *; omega); simp [totalI, z, sel]; done), hs.keep⟩)
        · skip
          refine cd_skip ?_
          refine ex_go ?_
          simp only [decide_eq_false_iff_not] at *
          refine cd_region ?_
          refine at_pure (pv_move rfl) rfl ?_
          refine at_pure (pv_move rfl) rfl ?_
          refine at_pure (by first | exact pv_add_n rfl rfl (by unfold In64; omega) | exact pv_add rfl rfl) rfl ?_
          refine at_pure (pv_assign rfl) rfl ?_
          refine at_nil ?_
          refine ex_in_normal (ex_go ?_)
          refine cd_region ?_
          refine at_pure (by first | exact pv_add_n rfl rfl (by unfold In64; omega) | exact pv_add rfl rfl) rfl ?_
          refine at_pure (pv_move rfl) rfl ?_
          refine at_nil ?_
          refine ex_round ?_
          refine cd_seq ?_
          refine cd_region ?_
          refine at_pure (pv_lss rfl rfl) rfl ?_
          refine at_nil ?_
          refine ex_go ?_
          refine cd_seq ?_
          refine cd_then rfl (by decide) ?_
          refine cd_skip ?_
          refine ex_go ?_
          refine cd_seq ?_
          refine cd_block ?_
          refine cd_seq ?_
          refine cd_region ?_
          refine at_pure (pv_arr Try.underlying72 ld_3 c1_3 rfl rfl (by decide) rfl) rfl ?_
          refine at_pure (pv_assign rfl) rfl ?_
          refine at_nil ?_
          refine ex_go ?_
          refine cd_seq ?_
          refine cd_seq ?_
          refine cd_region ?_
          refine at_pure (pv_move rfl) rfl ?_
          refine at_pure (pv_lss rfl rfl) rfl ?_
          refine at_pure (pv_move rfl) rfl ?_
          refine at_split 22 rfl (fun hb5 => ?_) (fun hb5 => ?_)
          · skip
            refine at_skip rfl rfl hb5 rfl ?_
            refine at_skip rfl rfl hb5 rfl ?_
            refine at_pure (pv_pick_t rfl hb5 rfl) rfl ?_
            refine at_nil ?_
            refine ex_go ?_
            refine cd_then rfl rfl ?_
            refine cd_seq ?_
            refine cd_region ?_
            refine at_pure (pv_assign rfl) rfl ?_
            refine at_nil ?_
            refine ex_go ?_
            refine cd_ret ?_
            refine ex_then_ret (ex_in_ret (ex_then_ret (ex_then_ret (ex_in_ret (ex_then_ret ?_)))))
            exact end_ret1 rfl rfl (fun w hs => ⟨by clear hs; first | (have z : (manyB a && manyB b && manyB c && manyB d && manyB e) = false := (by simp [manyB]; try simp at *; intros; omega); simp [totalI, z, sel]; done) | (have z : (manyB a && manyB b && manyB c && manyB d && manyB e) = true := (by simp [manyB]; try simp at *; omega); simp [totalI, z, sel]; done), hs.keep⟩)
          · skip
            refine at_pure_g rfl rfl hb5 (pv_move rfl) rfl ?_
            refine at_pure_g rfl rfl hb5 (pv_gtr rfl rfl) rfl ?_
            refine at_pure (pv_pick_f rfl hb5 rfl) rfl ?_
            refine at_nil ?_
            refine ex_go ?_
            refine cd_if rfl (fun hb6 => ?_) (fun hb6 => ?_)
            · skip
              refine cd_seq ?_
              refine cd_region ?_
              refine at_pure (pv_assign rfl) rfl ?_
              refine at_nil ?_
              refine ex_go ?_
              refine cd_ret ?_
              refine ex_then_ret (ex_in_ret (ex_then_ret (ex_then_ret (ex_in_ret (ex_then_ret ?_)))))
              exact end_ret1 rfl rfl (fun w hs => ⟨by clear hs; first | (have z : (manyB a && manyB b && manyB c && manyB d && manyB e) = false := (by simp [manyB]; try simp at *; intros; omega); simp [totalI, z, sel]; done) | (have z : (manyB a && manyB b && manyB c && manyB d && manyB e) = true := (by simp [manyB]; try simp at *; omega); simp [totalI, z, sel]; done), hs.keep⟩)
            · skip
              refine cd_skip ?_
              refine ex_go ?_
              simp only [decide_eq_false_iff_not] at *
              refine cd_region ?_
              refine at_pure (pv_move rfl) rfl ?_
              refine at_pure (pv_move rfl) rfl ?_
              refine at_pure (by first | exact pv_add_n rfl rfl (by unfold In64; omega) | exact pv_add rfl rfl) rfl ?_
              refine at_pure (pv_assign rfl) rfl ?_
              refine at_nil ?_
              refine ex_in_normal (ex_go ?_)
              refine cd_region ?_
              refine at_pure (by first | exact pv_add_n rfl rfl (by unfold In64; omega) | exact pv_add rfl rfl) rfl ?_
              refine at_pure (pv_move rfl) rfl ?_
              refine at_nil ?_
              refine ex_round ?_
              refine cd_seq ?_
              refine cd_region ?_
              refine at_pure (pv_lss rfl rfl) rfl ?_
              refine at_nil ?_
              refine ex_go ?_
              refine cd_seq ?_
              refine cd_then rfl (by decide) ?_
              refine cd_skip ?_
              refine ex_go ?_
              refine cd_seq ?_
              refine cd_block ?_
              refine cd_seq ?_
              refine cd_region ?_
              refine at_pure (pv_arr Try.underlying72 ld_3 c1_3 rfl rfl (by decide) rfl) rfl ?_
              refine at_pure (pv_assign rfl) rfl ?_
              refine at_nil ?_
              refine ex_go ?_
              refine cd_seq ?_
              refine cd_seq ?_
              refine cd_region ?_
              refine at_pure (pv_move rfl) rfl ?_
              refine at_pure (pv_lss rfl rfl) rfl ?_
              refine at_pure (pv_move rfl) rfl ?_
              refine at_split 22 rfl (fun hb7 => ?_) (fun hb7 => ?_)
              · skip
                refine at_skip rfl rfl hb7 rfl ?_
                refine at_skip rfl rfl hb7 rfl ?_
                refine at_pure (pv_pick_t rfl hb7 rfl) rfl ?_
                refine at_nil ?_
                refine ex_go ?_
                refine cd_then rfl rfl ?_
                refine cd_seq ?_
                refine cd_region ?_
                refine at_pure (pv_assign rfl) rfl ?_
                refine at_nil ?_
                refine ex_go ?_
                refine cd_ret ?_
                refine ex_then_ret (ex_in_ret (ex_then_ret (ex_then_ret (ex_in_ret (ex_then_ret ?_)))))
                exact end_ret1 rfl rfl (fun w hs => ⟨by clear hs; first | (have z : (manyB a && manyB b && manyB c && manyB d && manyB e) = false := (by simp [manyB]; try simp at *; intros; omega); simp [totalI, z, sel]; done) | (have z : (manyB a && manyB b && manyB c && manyB d && manyB e) = true := (by simp [manyB]; try simp at *; omega); simp [totalI, z, sel]; done), hs.keep⟩)
              · skip
                refine at_pure_g rfl rfl hb7 (pv_move rfl) rfl ?_
                refine at_pure_g rfl rfl hb7 (pv_gtr rfl rfl) rfl ?_
                refine at_pure (pv_pick_f rfl hb7 rfl) rfl ?_
                refine at_nil ?_
                refine ex_go ?_
                refine cd_if rfl (fun hb8 => ?_) (fun hb8 => ?_)
                · skip
                  refine cd_seq ?_
                  refine cd_region ?_
                  refine at_pure (pv_assign rfl) rfl ?_
                  refine at_nil ?_
                  refine ex_go ?_
                  refine cd_ret ?_
                  refine ex_then_ret (ex_in_ret (ex_then_ret (ex_then_ret (ex_in_ret (ex_then_ret ?_)))))
                  exact end_ret1 rfl rfl (fun w hs => ⟨by clear hs; first | (have z : (manyB a && manyB b && manyB c && manyB d && manyB e) = false := (by simp [manyB]; try simp at *; intros; omega); simp [totalI, z, sel]; done) | (have z : (manyB a && manyB b && manyB c && manyB d && manyB e) = true := (by simp [manyB]; try simp at *; omega); simp [totalI, z, sel]; done), hs.keep⟩)
                · skip
                  refine cd_skip ?_
                  refine ex_go ?_
                  simp only [decide_eq_false_iff_not] at *
                  refine cd_region ?_
                  refine at_pure (pv_move rfl) rfl ?_
                  refine at_pure (pv_move rfl) rfl ?_
                  refine at_pure (by first | exact pv_add_n rfl rfl (by unfold In64; omega) | exact pv_add rfl rfl) rfl ?_
                  refine at_pure (pv_assign rfl) rfl ?_
                  refine at_nil ?_
                  refine ex_in_normal (ex_go ?_)
                  refine cd_region ?_
                  refine at_pure (by first | exact pv_add_n rfl rfl (by unfold In64; omega) | exact pv_add rfl rfl) rfl ?_
                  refine at_pure (pv_move rfl) rfl ?_
                  refine at_nil ?_
                  refine ex_round ?_
                  refine cd_seq ?_
                  refine cd_region ?_
                  refine at_pure (pv_lss rfl rfl) rfl ?_
                  refine at_nil ?_
                  refine ex_go ?_
                  refine cd_seq ?_
                  refine cd_then rfl (by decide) ?_
                  refine cd_skip ?_
                  refine ex_go ?_
                  refine cd_seq ?_
                  refine cd_block ?_
                  refine cd_seq ?_
                  refine cd_region ?_
                  refine at_pure (pv_arr Try.underlying72 ld_3 c1_3 rfl rfl (by decide) rfl) rfl ?_
                  refine at_pure (pv_assign rfl) rfl ?_
                  refine at_nil ?_
                  refine ex_go ?_
                  refine cd_seq ?_
                  refine cd_seq ?_
                  refine cd_region ?_
                  refine at_pure (pv_move rfl) rfl ?_
                  refine at_pure (pv_lss rfl rfl) rfl ?_
                  refine at_pure (pv_move rfl) rfl ?_
                  refine at_split 22 rfl (fun hb9 => ?_) (fun hb9 => ?_)
                  · skip
                    refine at_skip rfl rfl hb9 rfl ?_
                    refine at_skip rfl rfl hb9 rfl ?_
                    refine at_pure (pv_pick_t rfl hb9 rfl) rfl ?_
                    refine at_nil ?_
                    refine ex_go ?_
                    refine cd_then rfl rfl ?_
                    refine cd_seq ?_
                    refine cd_region ?_
                    refine at_pure (pv_assign rfl) rfl ?_
                    refine at_nil ?_
                    refine ex_go ?_
                    refine cd_ret ?_
                    refine ex_then_ret (ex_in_ret (ex_then_ret (ex_then_ret (ex_in_ret (ex_then_ret ?_)))))
                    exact end_ret1 rfl rfl (fun w hs => ⟨by clear hs; first | (have z : (manyB a && manyB b && manyB c && manyB d && manyB e) = false := (by simp [manyB]; try simp at *; intros; omega); simp [totalI, z, sel]; done) | (have z : (manyB a && manyB b && manyB c && manyB d && manyB e) = true := (by simp [manyB]; try simp at *; omega); simp [totalI, z, sel]; done), hs.keep⟩)
                  · skip
                    refine at_pure_g rfl rfl hb9 (pv_move rfl) rfl ?_
                    refine at_pure_g rfl rfl hb9 (pv_gtr rfl rfl) rfl ?_
                    refine at_pure (pv_pick_f rfl hb9 rfl) rfl ?_
                    refine at_nil ?_
                    refine ex_go ?_
                    refine cd_if rfl (fun hb10 => ?_) (fun hb10 => ?_)
                    · skip
                      refine cd_seq ?_
                      refine cd_region ?_
                      refine at_pure (pv_assign rfl) rfl ?_
                      refine at_nil ?_
                      refine ex_go ?_
                      refine cd_ret ?_
                      refine ex_then_ret (ex_in_ret (ex_then_ret (ex_then_ret (ex_in_ret (ex_then_ret ?_)))))
                      exact end_ret1 rfl rfl (fun w hs => ⟨by clear hs; first | (have z : (manyB a && manyB b && manyB c && manyB d && manyB e) = false := (by simp [manyB]; try simp at *; intros; omega); simp [totalI, z, sel]; done) | (have z : (manyB a && manyB b && manyB c && manyB d && manyB e) = true := (by simp [manyB]; try simp at *; omega); simp [totalI, z, sel]; done), hs.keep⟩)
                    · skip
                      refine cd_skip ?_
                      refine ex_go ?_
                      simp only [decide_eq_false_iff_not] at *
                      refine cd_region ?_
                      refine at_pure (pv_move rfl) rfl ?_
                      refine at_pure (pv_move rfl) rfl ?_
                      refine at_pure (by first | exact pv_add_n rfl rfl (by unfold In64; omega) | exact pv_add rfl rfl) rfl ?_
                      refine at_pure (pv_assign rfl) rfl ?_
                      refine at_nil ?_
                      refine ex_in_normal (ex_go ?_)
                      refine cd_region ?_
                      refine at_pure (by first | exact pv_add_n rfl rfl (by unfold In64; omega) | exact pv_add rfl rfl) rfl ?_
                      refine at_pure (pv_move rfl) rfl ?_
                      refine at_nil ?_
                      refine ex_round ?_
                      refine cd_seq ?_
                      refine cd_region ?_
                      refine at_pure (pv_lss rfl rfl) rfl ?_
                      refine at_nil ?_
                      refine ex_go ?_
                      refine cd_seq ?_
                      refine cd_else rfl (by decide) ?_
                      refine cd_exit ?_
                      refine ex_then_exit (ex_then_exit (ex_in (ex_go ?_)))
                      refine cd_seq ?_
                      refine cd_region ?_
                      refine at_pure (pv_move rfl) rfl ?_
                      refine at_pure (pv_assign rfl) rfl ?_
                      refine at_nil ?_
                      refine ex_go ?_
                      refine cd_ret ?_
                      exact end_ret1 rfl rfl (fun w hs => ⟨by clear hs; first | (have z : (manyB a && manyB b && manyB c && manyB d && manyB e) = false := (by simp [manyB]; try simp at *; intros; omega); simp [totalI, z, sel]; done) | (have z : (manyB a && manyB b && manyB c && manyB d && manyB e) = true := (by simp [manyB]; try simp at *; omega); simp [totalI, z, sel]; done), hs.keep⟩)

theorem total_ref (a b c d e : Int) (w : World) : Calls Try.prog 18 [.agg #[.int .i64 a, .int .i64 b, .int .i64 c, .int .i64 d, .int .i64 e]].toArray w (Val (.int .i64 (totalI a b c d e)) w) := by
  refine calls_body (n := 33) Try.func18 rfl rfl rfl (St.init _ []) ?_
  refine cd_seq ?_
  refine cd_region ?_
  refine at_does (does_box rfl .agg (fun _ => .nil)) rfl (fun g1 => ?_)
  refine at_pure (pv_assign rfl) rfl ?_
  refine at_nil ?_
  refine ex_go ?_
  refine cd_seq ?_
  refine cd_region ?_
  refine at_pure (pv_assign rfl) rfl ?_
  refine at_nil ?_
  refine ex_go ?_
  refine cd_seq ?_
  refine cd_seq ?_
  refine cd_region ?_
  refine at_pure (pv_field0 fa_29_0 rfl (r := 0) rfl) rfl ?_
  refine at_pure (by exact pv_load ld_3 rfl (box_cell .z .z)) rfl ?_
  refine at_pure (pv_field0 fa_29_1 rfl (r := 1) rfl) rfl ?_
  refine at_pure (by exact pv_load ld_3 rfl (box_cell .z (.s .z))) rfl ?_
  refine at_pure (pv_field0 fa_29_2 rfl (r := 2) rfl) rfl ?_
  refine at_pure (by exact pv_load ld_3 rfl (box_cell .z (.s (.s .z)))) rfl ?_
  refine at_pure (pv_field0 fa_29_3 rfl (r := 3) rfl) rfl ?_
  refine at_pure (by exact pv_load ld_3 rfl (box_cell .z (.s (.s (.s .z))))) rfl ?_
  refine at_pure (pv_field0 fa_29_4 rfl (r := 4) rfl) rfl ?_
  refine at_pure (by exact pv_load ld_3 rfl (box_cell .z (.s (.s (.s (.s .z)))))) rfl ?_
  refine at_does (does_list (by rfl) (by exact (bs_36_5_0_1_2_3_4 _ _ _ _ _)) (by exact (fun _ => (.cons .nil)))) rfl (fun g2 => ?_)
  refine at_pure (pv_len Try.underlying36 rfl) rfl ?_
  refine at_pure (pv_move rfl) rfl ?_
  refine at_nil ?_
  refine ex_go ?_
  refine cd_block ?_
  refine cd_rounds 5 ?_
  refine cd_seq ?_
  refine cd_region ?_
  refine at_pure (pv_lss rfl rfl) rfl ?_
  refine at_nil ?_
  refine ex_go ?_
  refine cd_seq ?_
  refine cd_then rfl (by decide) ?_
  refine cd_skip ?_
  refine ex_go ?_
  refine cd_seq ?_
  refine cd_block ?_
  refine cd_seq ?_
  refine cd_region ?_
  refine at_pure (pv_indexLit Try.underlying36 cz_3 rfl rfl (by decide) rfl) rfl ?_
  refine at_pure (by exact pv_load ld_3 rfl (box_cell (.s .z) .z)) rfl ?_
  refine at_pure (pv_assign rfl) rfl ?_
  refine at_nil ?_
  refine ex_go ?_
  refine cd_seq ?_
  refine cd_seq ?_
  refine cd_region ?_
  refine at_pure (pv_move rfl) rfl ?_
  refine at_pure (pv_lss rfl rfl) rfl ?_
  refine at_pure (pv_move rfl) rfl ?_
  refine at_split 24 rfl (fun hb1 => ?_) (fun hb1 => ?_)
  · skip
    refine at_skip rfl rfl hb1 rfl ?_
    refine at_skip rfl rfl hb1 rfl ?_
    refine at_pure (pv_pick_t rfl hb1 rfl) rfl ?_
    refine at_nil ?_
    refine ex_go ?_
    refine cd_then rfl rfl ?_
    refine cd_seq ?_
    refine cd_region ?_
    refine at_pure (pv_assign rfl) rfl ?_
    refine at_nil ?_
    refine ex_go ?_
    refine cd_ret ?_
    refine ex_then_ret (ex_in_ret (ex_then_ret (ex_then_ret (ex_in_ret (ex_then_ret ?_)))))
    exact end_ret1 rfl rfl (fun w hs => ⟨by clear hs; first | (have z : (manyB a && manyB b && manyB c && manyB d && manyB e) = false := (by simp [manyB]; try simp at *; intros; omega); simp [totalI, z, sel]; done) | (have z : (manyB a && manyB b && manyB c && manyB d && manyB e) = true := (by simp [manyB]; try simp at *; omega); simp [totalI, z, sel]; done), hs.keep⟩)
  · skip
    refine at_pure_g rfl rfl hb1 (pv_move rfl) rfl ?_
    refine at_pure_g rfl rfl hb1 (pv_gtr rfl rfl) rfl ?_
    refine at_pure (pv_pick_f rfl hb1 rfl) rfl ?_
    refine at_nil ?_
    refine ex_go ?_
    refine cd_if rfl (fun hb2 => ?_) (fun hb2 => ?_)
    · skip
      refine cd_seq ?_
      refine cd_region ?_
      refine at_pure (pv_assign rfl) rfl ?_
      refine at_nil ?_
      refine ex_go ?_
      refine cd_ret ?_
      refine ex_then_ret (ex_in_ret (ex_then_ret (ex_then_ret (ex_in_ret (ex_then_ret ?_)))))
      exact end_ret1 rfl rfl (fun w hs => ⟨by clear hs; first | (have z : (manyB a && manyB b && manyB c && manyB d && manyB e) = false := (by simp [manyB]; try simp at *; intros; omega); simp [totalI, z, sel]; done) | (have z : (manyB a && manyB b && manyB c && manyB d && manyB e) = true := (by simp [manyB]; try simp at *; omega); simp [totalI, z, sel]; done), hs.keep⟩)
    · skip
      refine cd_skip ?_
      refine ex_go ?_
      simp only [decide_eq_false_iff_not] at *
      refine cd_region ?_
      refine at_pure (pv_move rfl) rfl ?_
      refine at_pure (pv_move rfl) rfl ?_
      refine at_pure (by first | exact pv_add_n rfl rfl (by unfold In64; omega) | exact pv_add rfl rfl) rfl ?_
      refine at_pure (pv_assign rfl) rfl ?_
      refine at_nil ?_
      refine ex_in_normal (ex_go ?_)
      refine cd_region ?_
      refine at_pure (by first | exact pv_add_n rfl rfl (by unfold In64; omega) | exact pv_add rfl rfl) rfl ?_
      refine at_pure (pv_move rfl) rfl ?_
      refine at_nil ?_
      refine ex_round ?_
      refine cd_seq ?_
      refine cd_region ?_
      refine at_pure (pv_lss rfl rfl) rfl ?_
      refine at_nil ?_
      refine ex_go ?_
      refine cd_seq ?_
      refine cd_then rfl (by decide) ?_
      refine cd_skip ?_
      refine ex_go ?_
      refine cd_seq ?_
      refine cd_block ?_
      refine cd_seq ?_
      refine cd_region ?_
      refine at_pure (pv_indexLit Try.underlying36 cz_3 rfl rfl (by decide) rfl) rfl ?_
      refine at_pure (by exact pv_load ld_3 rfl (box_cell (.s .z) (.s .z))) rfl ?_
      refine at_pure (pv_assign rfl) rfl ?_
      refine at_nil ?_
      refine ex_go ?_
      refine cd_seq ?_
      refine cd_seq ?_
      refine cd_region ?_
      refine at_pure (pv_move rfl) rfl ?_
      refine at_pure (pv_lss rfl rfl) rfl ?_
      refine at_pure (pv_move rfl) rfl ?_
      refine at_split 24 rfl (fun hb3 => ?_) (fun hb3 => ?_)
      · skip
        refine at_skip rfl rfl hb3 rfl ?_
        refine at_skip rfl rfl hb3 rfl ?_
        refine at_pure (pv_pick_t rfl hb3 rfl) rfl ?_
        refine at_nil ?_
        refine ex_go ?_
        refine cd_then rfl rfl ?_
        refine cd_seq ?_
        refine cd_region ?_
        refine at_pure (pv_assign rfl) rfl ?_
        refine at_nil ?_
        refine ex_go ?_
        refine cd_ret ?_
        refine ex_then_ret (ex_in_ret (ex_then_ret (ex_then_ret (ex_in_ret (ex_then_ret ?_)))))
        exact end_ret1 rfl rfl (fun w hs => ⟨by clear hs; first | (have z : (manyB a && manyB b && manyB c && manyB d && manyB e) = false := (by simp [manyB]; try simp at *; intros; omega); simp [totalI, z, sel]; done) | (have z : (manyB a && manyB b && manyB c && manyB d && manyB e) = true := (by simp [manyB]; try simp at *; omega); simp [totalI, z, sel]; done), hs.keep⟩)
      · skip
        refine at_pure_g rfl rfl hb3 (pv_move rfl) rfl ?_
        refine at_pure_g rfl rfl hb3 (pv_gtr rfl rfl) rfl ?_
        refine at_pure (pv_pick_f rfl hb3 rfl) rfl ?_
        refine at_nil ?_
        refine ex_go ?_
        refine cd_if rfl (fun hb4 => ?_) (fun hb4 => ?_)
        · skip
          refine cd_seq ?_
          refine cd_region ?_
          refine at_pure (pv_assign rfl) rfl ?_
          refine at_nil ?_
          refine ex_go ?_
          refine cd_ret ?_
          refine ex_then_ret (ex_in_ret (ex_then_ret (ex_then_ret (ex_in_ret (ex_then_ret ?_)))))
          exact end_ret1 rfl rfl (fun w hs => ⟨by clear hs; first | (have z : (manyB a && manyB b && manyB c && manyB d && manyB e) = false := (by simp [manyB]; try simp at *; intros; omega); simp [totalI, z, sel]; done) | (have z : (manyB a && manyB b && manyB c && manyB d && manyB e) = true := (by simp [manyB]; try simp at *; omega); simp [totalI, z, sel]; done), hs.keep⟩)
        · skip
          refine cd_skip ?_
          refine ex_go ?_
          simp only [decide_eq_false_iff_not] at *
          refine cd_region ?_
          refine at_pure (pv_move rfl) rfl ?_
          refine at_pure (pv_move rfl) rfl ?_
          refine at_pure (by first | exact pv_add_n rfl rfl (by unfold In64; omega) | exact pv_add rfl rfl) rfl ?_
          refine at_pure (pv_assign rfl) rfl ?_
          refine at_nil ?_
          refine ex_in_normal (ex_go ?_)
          refine cd_region ?_
          refine at_pure (by first | exact pv_add_n rfl rfl (by unfold In64; omega) | exact pv_add rfl rfl) rfl ?_
          refine at_pure (pv_move rfl) rfl ?_
          refine at_nil ?_
          refine ex_round ?_
          refine cd_seq ?_
          refine cd_region ?_
          refine at_pure (pv_lss rfl rfl) rfl ?_
          refine at_nil ?_
          refine ex_go ?_
          refine cd_seq ?_
          refine cd_then rfl (by decide) ?_
          refine cd_skip ?_
          refine ex_go ?_
          refine cd_seq ?_
          refine cd_block ?_
          refine cd_seq ?_
          refine cd_region ?_
          refine at_pure (pv_indexLit Try.underlying36 cz_3 rfl rfl (by decide) rfl) rfl ?_
          refine at_pure (by exact pv_load ld_3 rfl (box_cell (.s .z) (.s (.s .z)))) rfl ?_
          refine at_pure (pv_assign rfl) rfl ?_
          refine at_nil ?_
          refine ex_go ?_
          refine cd_seq ?_
          refine cd_seq ?_
          refine cd_region ?_
          refine at_pure (pv_move rfl) rfl ?_
          refine at_pure (pv_lss rfl rfl) rfl ?_
          refine at_pure (pv_move rfl) rfl ?_
          refine at_split 24 rfl (fun hb5 => ?_) (fun hb5 => ?_)
          · skip
            refine at_skip rfl rfl hb5 rfl ?_
            refine at_skip rfl rfl hb5 rfl ?_
            refine at_pure (pv_pick_t rfl hb5 rfl) rfl ?_
            refine at_nil ?_
            refine ex_go ?_
            refine cd_then rfl rfl ?_
            refine cd_seq ?_
            refine cd_region ?_
            refine at_pure (pv_assign rfl) rfl ?_
            refine at_nil ?_
            refine ex_go ?_
            refine cd_ret ?_
            refine ex_then_ret (ex_in_ret (ex_then_ret (ex_then_ret (ex_in_ret (ex_then_ret ?_)))))
            exact end_ret1 rfl rfl (fun w hs => ⟨by clear hs; first | (have z : (manyB a && manyB b && manyB c && manyB d && manyB e) = false := (by simp [manyB]; try simp at *; intros; omega); simp [totalI, z, sel]; done) | (have z : (manyB a && manyB b && manyB c && manyB d && manyB e) = true := (by simp [manyB]; try simp at *; omega); simp [totalI, z, sel]; done), hs.keep⟩)
          · skip
            refine at_pure_g rfl rfl hb5 (pv_move rfl) rfl ?_
            refine at_pure_g rfl rfl hb5 (pv_gtr rfl rfl) rfl ?_
            refine at_pure (pv_pick_f rfl hb5 rfl) rfl ?_
            refine at_nil ?_
            refine ex_go ?_
            refine cd_if rfl (fun hb6 => ?_) (fun hb6 => ?_)
            · skip
              refine cd_seq ?_
              refine cd_region ?_
              refine at_pure (pv_assign rfl) rfl ?_
              refine at_nil ?_
              refine ex_go ?_
              refine cd_ret ?_
              refine ex_then_ret (ex_in_ret (ex_then_ret (ex_then_ret (ex_in_ret (ex_then_ret ?_)))))
              exact end_ret1 rfl rfl (fun w hs => ⟨by clear hs; first | (have z : (manyB a && manyB b && manyB c && manyB d && manyB e) = false := (by simp [manyB]; try simp at *; intros; omega); simp [totalI, z, sel]; done) | (have z : (manyB a && manyB b && manyB c && manyB d && manyB e) = true := (by simp [manyB]; try simp at *; omega); simp [totalI, z, sel]; done), hs.keep⟩)
            · skip
              refine cd_skip ?_
              refine ex_go ?_
              simp only [decide_eq_false_iff_not] at *
              refine cd_region ?_
              refine at_pure (pv_move rfl) rfl ?_
              refine at_pure (pv_move rfl) rfl ?_
              refine at_pure (by first | exact pv_add_n rfl rfl (by unfold In64; omega) | exact pv_add rfl rfl) rfl ?_
              refine at_pure (pv_assign rfl) rfl ?_
              refine at_nil ?_
              refine ex_in_normal (ex_go ?_)
              refine cd_region ?_
              refine at_pure (by first | exact pv_add_n rfl rfl (by unfold In64; omega) | exact pv_add rfl rfl) rfl ?_
              refine at_pure (pv_move rfl) rfl ?_
              refine at_nil ?_
              refine ex_round ?_
              refine cd_seq ?_
              refine cd_region ?_
              refine at_pure (pv_lss rfl rfl) rfl ?_
              refine at_nil ?_
              refine ex_go ?_
              refine cd_seq ?_
              refine cd_then rfl (by decide) ?_
              refine cd_skip ?_
              refine ex_go ?_
              refine cd_seq ?_
              refine cd_block ?_
              refine cd_seq ?_
              refine cd_region ?_
              refine at_pure (pv_indexLit Try.underlying36 cz_3 rfl rfl (by decide) rfl) rfl ?_
              refine at_pure (by exact pv_load ld_3 rfl (box_cell (.s .z) (.s (.s (.s .z))))) rfl ?_
              refine at_pure (pv_assign rfl) rfl ?_
              refine at_nil ?_
              refine ex_go ?_
              refine cd_seq ?_
              refine cd_seq ?_
              refine cd_region ?_
              refine at_pure (pv_move rfl) rfl ?_
              refine at_pure (pv_lss rfl rfl) rfl ?_
              refine at_pure (pv_move rfl) rfl ?_
              refine at_split 24 rfl (fun hb7 => ?_) (fun hb7 => ?_)
              · skip
                refine at_skip rfl rfl hb7 rfl ?_
                refine at_skip rfl rfl hb7 rfl ?_
                refine at_pure (pv_pick_t rfl hb7 rfl) rfl ?_
                refine at_nil ?_
                refine ex_go ?_
                refine cd_then rfl rfl ?_
                refine cd_seq ?_
                refine cd_region ?_
                refine at_pure (pv_assign rfl) rfl ?_
                refine at_nil ?_
                refine ex_go ?_
                refine cd_ret ?_
                refine ex_then_ret (ex_in_ret (ex_then_ret (ex_then_ret (ex_in_ret (ex_then_ret ?_)))))
                exact end_ret1 rfl rfl (fun w hs => ⟨by clear hs; first | (have z : (manyB a && manyB b && manyB c && manyB d && manyB e) = false := (by simp [manyB]; try simp at *; intros; omega); simp [totalI, z, sel]; done) | (have z : (manyB a && manyB b && manyB c && manyB d && manyB e) = true := (by simp [manyB]; try simp at *; omega); simp [totalI, z, sel]; done), hs.keep⟩)
              · skip
                refine at_pure_g rfl rfl hb7 (pv_move rfl) rfl ?_
                refine at_pure_g rfl rfl hb7 (pv_gtr rfl rfl) rfl ?_
                refine at_pure (pv_pick_f rfl hb7 rfl) rfl ?_
                refine at_nil ?_
                refine ex_go ?_
                refine cd_if rfl (fun hb8 => ?_) (fun hb8 => ?_)
                · skip
                  refine cd_seq ?_
                  refine cd_region ?_
                  refine at_pure (pv_assign rfl) rfl ?_
                  refine at_nil ?_
                  refine ex_go ?_
                  refine cd_ret ?_
                  refine ex_then_ret (ex_in_ret (ex_then_ret (ex_then_ret (ex_in_ret (ex_then_ret ?_)))))
                  exact end_ret1 rfl rfl (fun w hs => ⟨by clear hs; first | (have z : (manyB a && manyB b && manyB c && manyB d && manyB e) = false := (by simp [manyB]; try simp at *; intros; omega); simp [totalI, z, sel]; done) | (have z : (manyB a && manyB b && manyB c && manyB d && manyB e) = true := (by simp [manyB]; try simp at *; omega); simp [totalI, z, sel]; done), hs.keep⟩)
                · skip
                  refine cd_skip ?_
                  refine ex_go ?_
                  simp only [decide_eq_false_iff_not] at *
                  refine cd_region ?_
                  refine at_pure (pv_move rfl) rfl ?_
                  refine at_pure (pv_move rfl) rfl ?_
                  refine at_pure (by first | exact pv_add_n rfl rfl (by unfold In64; omega) | exact pv_add rfl rfl) rfl ?_
                  refine at_pure (pv_assign rfl) rfl ?_
                  refine at_nil ?_
                  refine ex_in_normal (ex_go ?_)
                  refine cd_region ?_
                  refine at_pure (by first | exact pv_add_n rfl rfl (by unfold In64; omega) | exact pv_add rfl rfl) rfl ?_
                  refine at_pure (pv_move rfl) rfl ?_
                  refine at_nil ?_
                  refine ex_round ?_
                  refine cd_seq ?_
                  refine cd_region ?_
                  refine at_pure (pv_lss rfl rfl) rfl ?_
                  refine at_nil ?_
                  refine ex_go ?_
                  refine cd_seq ?_
                  refine cd_then rfl (by decide) ?_
                  refine cd_skip ?_
                  refine ex_go ?_
                  refine cd_seq ?_
                  refine cd_block ?_
                  refine cd_seq ?_
                  refine cd_region ?_
                  refine at_pure (pv_indexLit Try.underlying36 cz_3 rfl rfl (by decide) rfl) rfl ?_
                  refine at_pure (by exact pv_load ld_3 rfl (box_cell (.s .z) (.s (.s (.s (.s .z)))))) rfl ?_
                  refine at_pure (pv_assign rfl) rfl ?_
                  refine at_nil ?_
                  refine ex_go ?_
                  refine cd_seq ?_
                  refine cd_seq ?_
                  refine cd_region ?_
                  refine at_pure (pv_move rfl) rfl ?_
                  refine at_pure (pv_lss rfl rfl) rfl ?_
                  refine at_pure (pv_move rfl) rfl ?_
                  refine at_split 24 rfl (fun hb9 => ?_) (fun hb9 => ?_)
                  · skip
                    refine at_skip rfl rfl hb9 rfl ?_
                    refine at_skip rfl rfl hb9 rfl ?_
                    refine at_pure (pv_pick_t rfl hb9 rfl) rfl ?_
                    refine at_nil ?_
                    refine ex_go ?_
                    refine cd_then rfl rfl ?_
                    refine cd_seq ?_
                    refine cd_region ?_
                    refine at_pure (pv_assign rfl) rfl ?_
                    refine at_nil ?_
                    refine ex_go ?_
                    refine cd_ret ?_
                    refine ex_then_ret (ex_in_ret (ex_then_ret (ex_then_ret (ex_in_ret (ex_then_ret ?_)))))
                    exact end_ret1 rfl rfl (fun w hs => ⟨by clear hs; first | (have z : (manyB a && manyB b && manyB c && manyB d && manyB e) = false := (by simp [manyB]; try simp at *; intros; omega); simp [totalI, z, sel]; done) | (have z : (manyB a && manyB b && manyB c && manyB d && manyB e) = true := (by simp [manyB]; try simp at *; omega); simp [totalI, z, sel]; done), hs.keep⟩)
                  · skip
                    refine at_pure_g rfl rfl hb9 (pv_move rfl) rfl ?_
                    refine at_pure_g rfl rfl hb9 (pv_gtr rfl rfl) rfl ?_
                    refine at_pure (pv_pick_f rfl hb9 rfl) rfl ?_
                    refine at_nil ?_
                    refine ex_go ?_
                    refine cd_if rfl (fun hb10 => ?_) (fun hb10 => ?_)
                    · skip
                      refine cd_seq ?_
                      refine cd_region ?_
                      refine at_pure (pv_assign rfl) rfl ?_
                      refine at_nil ?_
                      refine ex_go ?_
                      refine cd_ret ?_
                      refine ex_then_ret (ex_in_ret (ex_then_ret (ex_then_ret (ex_in_ret (ex_then_ret ?_)))))
                      exact end_ret1 rfl rfl (fun w hs => ⟨by clear hs; first | (have z : (manyB a && manyB b && manyB c && manyB d && manyB e) = false := (by simp [manyB]; try simp at *; intros; omega); simp [totalI, z, sel]; done) | (have z : (manyB a && manyB b && manyB c && manyB d && manyB e) = true := (by simp [manyB]; try simp at *; omega); simp [totalI, z, sel]; done), hs.keep⟩)
                    · skip
                      refine cd_skip ?_
                      refine ex_go ?_
                      simp only [decide_eq_false_iff_not] at *
                      refine cd_region ?_
                      refine at_pure (pv_move rfl) rfl ?_
                      refine at_pure (pv_move rfl) rfl ?_
                      refine at_pure (by first | exact pv_add_n rfl rfl (by unfold In64; omega) | exact pv_add rfl rfl) rfl ?_
                      refine at_pure (pv_assign rfl) rfl ?_
                      refine at_nil ?_
                      refine ex_in_normal (ex_go ?_)
                      refine cd_region ?_
                      refine at_pure (by first | exact pv_add_n rfl rfl (by unfold In64; omega) | exact pv_add rfl rfl) rfl ?_
                      refine at_pure (pv_move rfl) rfl ?_
                      refine at_nil ?_
                      refine ex_round ?_
                      refine cd_seq ?_
                      refine cd_region ?_
                      refine at_pure (pv_lss rfl rfl) rfl ?_
                      refine at_nil ?_
                      refine ex_go ?_
                      refine cd_seq ?_
                      refine cd_else rfl (by decide) ?_
                      refine cd_exit ?_
                      refine ex_then_exit (ex_then_exit (ex_in (ex_go ?_)))
                      refine cd_seq ?_
                      refine cd_region ?_
                      refine at_pure (pv_move rfl) rfl ?_
                      refine at_pure (pv_assign rfl) rfl ?_
                      refine at_nil ?_
                      refine ex_go ?_
                      refine cd_ret ?_
                      exact end_ret1 rfl rfl (fun w hs => ⟨by clear hs; first | (have z : (manyB a && manyB b && manyB c && manyB d && manyB e) = false := (by simp [manyB]; try simp at *; intros; omega); simp [totalI, z, sel]; done) | (have z : (manyB a && manyB b && manyB c && manyB d && manyB e) = true := (by simp [manyB]; try simp at *; omega); simp [totalI, z, sel]; done), hs.keep⟩)

theorem emod_of (x y : Int) (hy : 0 < y) : x % y = if x.tmod y < 0 then x.tmod y + y else x.tmod y := by
  have h := Int.tmod_eq_emod (a := x) (b := y)
  have h1 := Int.emod_nonneg x (show y ≠ 0 by omega)
  have h2 := Int.emod_lt_of_pos x hy
  by_cases c : 0 ≤ x ∨ y ∣ x
  · rw [if_pos c] at h; rw [if_neg (by omega)]; omega
  · rw [if_neg c] at h; rw [if_pos (by omega)]; omega

theorem mod_any (x y : Int) (w : World) (hy : 0 < y ∧ y ≤ 4611686018427387904) : Calls Try.prog 12 [.int .i64 x, .int .i64 y].toArray w (Val (.int .i64 (x % y)) w) := by
  refine calls_body (n := 15) Try.func12 rfl rfl rfl (St.init _ []) ?_
  refine cd_seq ?_
  refine cd_region ?_
  refine at_pure (pv_assign rfl) rfl ?_
  refine at_nil ?_
  refine ex_go ?_
  refine cd_seq ?_
  have q := emod_of x y hy.1
  have q1 := Int.emod_nonneg x (show y ≠ 0 by omega)
  have q2 := Int.emod_lt_of_pos x hy.1
  refine cd_region ?_
  refine at_pure (pv_move rfl) rfl ?_
  refine at_pure (pv_move rfl) rfl ?_
  refine at_pure (pv_rem rfl rfl (by first | decide | omega)) rfl ?_
  refine at_pure (pv_assign rfl) rfl ?_
  refine at_nil ?_
  refine ex_go ?_
  refine cd_seq ?_
  refine cd_seq ?_
  refine cd_region ?_
  refine at_pure (pv_move rfl) rfl ?_
  refine at_pure (pv_lss rfl rfl) rfl ?_
  refine at_nil ?_
  refine ex_go ?_
  refine cd_if rfl (fun hb1 => ?_) (fun hb1 => ?_)
  · have q3 : x.tmod y < 0 := by simpa using hb1
    rw [if_pos q3] at q
    refine cd_region ?_
    refine at_pure (pv_move rfl) rfl ?_
    refine at_pure (pv_move rfl) rfl ?_
    refine at_pure (by first | exact pv_add_n rfl rfl (by unfold In64; omega) | exact pv_add rfl rfl) rfl ?_
    refine at_pure (pv_assign rfl) rfl ?_
    refine at_nil ?_
    refine ex_go ?_
    refine cd_seq ?_
    refine cd_region ?_
    refine at_pure (pv_move rfl) rfl ?_
    refine at_pure (pv_assign rfl) rfl ?_
    refine at_nil ?_
    refine ex_go ?_
    refine cd_ret ?_
    exact end_ret1 rfl rfl (fun w hs => ⟨by rw [q], hs.keep⟩)
  · have q3 : ¬ x.tmod y < 0 := by simpa using hb1
    rw [if_neg q3] at q
    refine cd_skip ?_
    refine ex_go ?_
    refine cd_seq ?_
    refine cd_region ?_
    refine at_pure (pv_move rfl) rfl ?_
    refine at_pure (pv_assign rfl) rfl ?_
    refine at_nil ?_
    refine ex_go ?_
    refine cd_ret ?_
    exact end_ret1 rfl rfl (fun w hs => ⟨by rw [q], hs.keep⟩)

theorem of_sane (w : World) : Calls Try.prog 15 [.agg #[.int .i64 48000, .int .i64 48000, .int .i64 48000, .int .i64 10, .int .i64 64, .int .i64 5, .int .i64 7]].toArray w (Val (.tuple #[.agg #[.int .i64 10, .int .i64 2, .int .i64 64, .int .i64 5, .int .i64 7], .int .i64 0]) w) := of_any _ _ _ _ _ _ _ w
theorem frames_sane1 (w : World) : Calls Try.prog 13 [.int .i64 480, .int .i64 48000, .int .i64 96000].toArray w (Val (.int .i64 960) w) := frames_any _ _ _ w
theorem frames_sane2 (w : World) : Calls Try.prog 13 [.int .i64 1, .int .i64 44100, .int .i64 48000].toArray w (Val (.int .i64 2) w) := frames_any _ _ _ w
theorem total_sane (w : World) : Calls Try.prog 17 [.agg #[.int .i64 10, .int .i64 2, .int .i64 64, .int .i64 5, .int .i64 7]].toArray w (Val (.int .i64 88) w) := total_any _ _ _ _ _ w

theorem sane_lat  (w : World) : Calls Try.prog 11 [].toArray w (Val (.bool true) w) := by
  refine calls_body (n := 23) Try.func11 rfl rfl rfl (St.init _ []) ?_
  refine cd_seq ?_
  refine cd_region ?_
  refine at_pure (pv_assign rfl) rfl ?_
  refine at_nil ?_
  refine ex_go ?_
  refine cd_seq ?_
  refine cd_region ?_
  refine at_pure (pv_build rfl (bu_27_0_1_2_3_4_5_6 _ _ _ _ _ _ _)) rfl ?_
  refine at_does (does_val cal15 rfl rfl rfl (fun w hs => of_sane w)) rfl (fun _ => ?_)
  refine at_pure (pv_move rfl) rfl ?_
  refine at_pure (pv_extract rfl rfl) rfl ?_
  refine at_pure (pv_extract rfl rfl) rfl ?_
  refine at_does (does_alloc ze_29 .agg (fun _ => .nil)) rfl (fun g1 => ?_)
  refine at_turns (by exact turns_store sz_29 rfl rfl .agg rfl rfl .z (.rep (.rep (.rep (.rep (.rep .done))))) .z) ?_
  refine at_pure (pv_assign rfl) rfl ?_
  refine at_nil ?_
  refine ex_go ?_
  refine cd_seq ?_
  refine cd_region ?_
  refine at_does (does_val cal13 rfl rfl rfl (fun w hs => frames_sane1 w)) rfl (fun _ => ?_)
  refine at_pure (pv_eql rfl rfl) rfl ?_
  refine at_pure (pv_move rfl) rfl ?_
  refine at_does_g rfl rfl rfl (does_val cal13 rfl rfl rfl (fun w hs => frames_sane2 w)) rfl (fun _ => ?_)
  refine at_pure_g rfl rfl rfl (pv_eql rfl rfl) rfl ?_
  refine at_pure (pv_pick_t rfl rfl rfl) rfl ?_
  refine at_pure (pv_move rfl) rfl ?_
  refine at_pure_g rfl rfl rfl (pv_move rfl) rfl ?_
  refine at_pure_g rfl rfl rfl (pv_eql rfl rfl) rfl ?_
  refine at_pure (pv_pick_t rfl rfl rfl) rfl ?_
  refine at_pure (pv_move rfl) rfl ?_
  refine at_pure_g rfl rfl rfl (by exact pv_loads_box ag_29 rfl .z (.take (.take (.take (.take (.take .done)))))) rfl ?_
  refine at_does_g rfl rfl rfl (does_val cal17 rfl rfl rfl (fun w hs => total_sane w)) rfl (fun _ => ?_)
  refine at_pure_g rfl rfl rfl (pv_eql rfl rfl) rfl ?_
  refine at_pure (pv_pick_t rfl rfl rfl) rfl ?_
  refine at_pure (pv_assign rfl) rfl ?_
  refine at_nil ?_
  refine ex_go ?_
  refine cd_ret ?_
  exact end_ret1 rfl rfl (fun w hs => Val.mk hs)

theorem latencyFrames_any (n f t : Int) (w : World) : Calls Try.prog 3 [.int .i64 n, .int .i64 f, .int .i64 t].toArray w (Val (.bool true) w) := by
  refine calls_body (n := 50) Try.func3 rfl rfl rfl (St.init _ []) ?_
  refine cd_seq ?_
  refine cd_region ?_
  refine at_pure (pv_assign rfl) rfl ?_
  refine at_nil ?_
  refine ex_go ?_
  refine cd_seq ?_
  refine cd_seq ?_
  refine cd_region ?_
  refine at_does (does_val cal11 rfl rfl rfl (fun w hs => sane_lat w)) rfl (fun _ => ?_)
  refine at_pure (pv_not rfl) rfl ?_
  refine at_nil ?_
  refine ex_go ?_
  refine cd_else rfl rfl ?_
  refine cd_skip ?_
  refine ex_go ?_
  refine cd_seq ?_
  refine cd_region ?_
  refine at_pure (pv_move rfl) rfl ?_
  refine at_does (does_val cal12 rfl rfl rfl (fun w hs => mod_any _ _ w (by decide))) rfl (fun _ => ?_)
  refine at_pure (by first | exact pv_add_n rfl rfl (by unfold In64; omega) | exact pv_add rfl rfl) rfl ?_
  refine at_pure (pv_move rfl) rfl ?_
  refine at_does (does_val cal12 rfl rfl rfl (fun w hs => mod_any _ _ w (by decide))) rfl (fun _ => ?_)
  refine at_pure (by first | exact pv_add_n rfl rfl (by unfold In64; omega) | exact pv_add rfl rfl) rfl ?_
  refine at_pure (pv_assign rfl) rfl ?_
  refine at_pure (pv_assign rfl) rfl ?_
  refine at_nil ?_
  refine ex_go ?_
  refine cd_seq ?_
  refine cd_region ?_
  refine at_pure (pv_move rfl) rfl ?_
  refine at_pure (pv_move rfl) rfl ?_
  refine at_pure (pv_move rfl) rfl ?_
  refine at_does (does_val cal13 rfl rfl rfl (fun w hs => frames_any _ _ _ w)) rfl (fun _ => ?_)
  refine at_pure (pv_move rfl) rfl ?_
  refine at_pure (pv_move rfl) rfl ?_
  refine at_pure (pv_move rfl) rfl ?_
  refine at_does (does_val cal14 rfl rfl rfl (fun w hs => frames_ref _ _ _ w)) rfl (fun _ => ?_)
  refine at_pure (pv_eql_same rfl rfl) rfl ?_
  refine at_pure (pv_move rfl) rfl ?_
  refine at_pure_g rfl rfl rfl (pv_move rfl) rfl ?_
  refine at_does_g rfl rfl rfl (does_val cal12 rfl rfl rfl (fun w hs => mod_any _ _ w (by decide))) rfl (fun _ => ?_)
  refine at_pure_g rfl rfl rfl (pv_move rfl) rfl ?_
  refine at_pure_g rfl rfl rfl (pv_move rfl) rfl ?_
  refine at_does_g rfl rfl rfl (does_val cal13 rfl rfl rfl (fun w hs => frames_any _ _ _ w)) rfl (fun _ => ?_)
  refine at_pure_g rfl rfl rfl (pv_move rfl) rfl ?_
  refine at_does_g rfl rfl rfl (does_val cal12 rfl rfl rfl (fun w hs => mod_any _ _ w (by decide))) rfl (fun _ => ?_)
  refine at_pure_g rfl rfl rfl (pv_move rfl) rfl ?_
  refine at_pure_g rfl rfl rfl (pv_move rfl) rfl ?_
  refine at_does_g rfl rfl rfl (does_val cal14 rfl rfl rfl (fun w hs => frames_ref _ _ _ w)) rfl (fun _ => ?_)
  refine at_pure_g rfl rfl rfl (pv_eql_same rfl rfl) rfl ?_
  refine at_pure (pv_pick_t rfl rfl rfl) rfl ?_
  refine at_pure (pv_move rfl) rfl ?_
  refine at_pure_g rfl rfl rfl (pv_move rfl) rfl ?_
  refine at_pure_g rfl rfl rfl (pv_move rfl) rfl ?_
  refine at_pure_g rfl rfl rfl (pv_move rfl) rfl ?_
  refine at_does_g rfl rfl rfl (does_val cal13 rfl rfl rfl (fun w hs => frames_any _ _ _ w)) rfl (fun _ => ?_)
  refine at_pure_g rfl rfl rfl (pv_move rfl) rfl ?_
  refine at_pure_g rfl rfl rfl (pv_move rfl) rfl ?_
  refine at_pure_g rfl rfl rfl (pv_move rfl) rfl ?_
  refine at_does_g rfl rfl rfl (does_val cal14 rfl rfl rfl (fun w hs => frames_ref _ _ _ w)) rfl (fun _ => ?_)
  refine at_pure_g rfl rfl rfl (pv_eql_same rfl rfl) rfl ?_
  refine at_pure (pv_pick_t rfl rfl rfl) rfl ?_
  refine at_pure (pv_assign rfl) rfl ?_
  refine at_nil ?_
  refine ex_go ?_
  refine cd_ret ?_
  exact end_ret1 rfl rfl (fun w hs => Val.mk hs)

set_option maxHeartbeats 1000000 in
theorem latencyParts_any (x0 x1 x2 x3 x4 x5 x6 : Int) (y0 y1 y2 y3 y4 : Int) (k : Int) (w : World) : Calls Try.prog 4 [.agg #[.int .i64 x0, .int .i64 x1, .int .i64 x2, .int .i64 x3, .int .i64 x4, .int .i64 x5, .int .i64 x6], .agg #[.int .i64 y0, .int .i64 y1, .int .i64 y2, .int .i64 y3, .int .i64 y4], .int .i64 k].toArray w (Val (.bool true) w) := by
  refine calls_body (n := 111) Try.func4 rfl rfl rfl (St.init _ []) ?_
  refine cd_seq ?_
  refine cd_region ?_
  refine at_does (does_box rfl .agg (fun _ => .nil)) rfl (fun g1 => ?_)
  refine at_does (does_box rfl .agg (fun _ => (.cons .nil))) rfl (fun g2 => ?_)
  refine at_pure (pv_assign rfl) rfl ?_
  refine at_nil ?_
  refine ex_go ?_
  refine cd_seq ?_
  refine cd_seq ?_
  refine cd_region ?_
  refine at_does (does_val cal11 rfl rfl rfl (fun w hs => sane_lat w)) rfl (fun _ => ?_)
  refine at_pure (pv_not rfl) rfl ?_
  refine at_nil ?_
  refine ex_go ?_
  refine cd_else rfl rfl ?_
  refine cd_skip ?_
  refine ex_go ?_
  refine cd_cut (σ := Nat) (fun g3 => [(2, .int .i64 k), (3, Value.pointer (some ⟨g1, 0, none⟩)), (4, Value.pointer (some ⟨g2, 0, none⟩)), (7, Value.pointer (some ⟨g3, 0, none⟩))]) (fun g3 => [Box g1 [.int .i64 (x0), .int .i64 (x1), .int .i64 (x2), .int .i64 (x3), .int .i64 (x4), .int .i64 (x5), .int .i64 (x6)] 27, Box g2 [.int .i64 (y0), .int .i64 (y1), .int .i64 (y2), .int .i64 (y3), .int .i64 (y4)] 29, Box g3 [.int .i64 (8000 + x0 % 100000), .int .i64 (1000 + x1 % 100000), .int .i64 (1000 + x2 % 100000), .int .i64 (x3 % 5000), .int .i64 (16 + x4 % 500), .int .i64 (x5 % 5000), .int .i64 (x6 % 5000)] 27]) (fun _ => True) ?_ ?_
  · skip
    refine cd_draw' 27 follows ?_
    refine dr_take 0 rfl (by kernel_rfl) (by first | exact List.Sublist.refl _ | exact List.sublist_append_left _ _) (pv_field0 fa_27_0 rfl (r := 0) rfl) rfl ?_
    refine dr_take 1 rfl (by kernel_rfl) (by first | exact List.Sublist.refl _ | exact List.sublist_append_left _ _) (by exact pv_load ld_3 rfl (box_cell .z .z)) rfl ?_
    refine dr_take 4 rfl (by kernel_rfl) (by first | exact List.Sublist.refl _ | exact List.sublist_append_left _ _) (pv_field0 fa_27_1 rfl (r := 1) rfl) rfl ?_
    refine dr_take 5 rfl (by kernel_rfl) (by first | exact List.Sublist.refl _ | exact List.sublist_append_left _ _) (by exact pv_load ld_3 rfl (box_cell .z (.s .z))) rfl ?_
    refine dr_take 8 rfl (by kernel_rfl) (by first | exact List.Sublist.refl _ | exact List.sublist_append_left _ _) (pv_field0 fa_27_2 rfl (r := 2) rfl) rfl ?_
    refine dr_take 9 rfl (by kernel_rfl) (by first | exact List.Sublist.refl _ | exact List.sublist_append_left _ _) (by exact pv_load ld_3 rfl (box_cell .z (.s (.s .z)))) rfl ?_
    refine dr_take 12 rfl (by kernel_rfl) (by first | exact List.Sublist.refl _ | exact List.sublist_append_left _ _) (pv_field0 fa_27_3 rfl (r := 3) rfl) rfl ?_
    refine dr_take 13 rfl (by kernel_rfl) (by first | exact List.Sublist.refl _ | exact List.sublist_append_left _ _) (by exact pv_load ld_3 rfl (box_cell .z (.s (.s (.s .z))))) rfl ?_
    refine dr_take 15 rfl (by kernel_rfl) (by first | exact List.Sublist.refl _ | exact List.sublist_append_left _ _) (pv_field0 fa_27_4 rfl (r := 4) rfl) rfl ?_
    refine dr_take 16 rfl (by kernel_rfl) (by first | exact List.Sublist.refl _ | exact List.sublist_append_left _ _) (by exact pv_load ld_3 rfl (box_cell .z (.s (.s (.s (.s .z)))))) rfl ?_
    refine dr_take 19 rfl (by kernel_rfl) (by first | exact List.Sublist.refl _ | exact List.sublist_append_left _ _) (pv_field0 fa_27_5 rfl (r := 5) rfl) rfl ?_
    refine dr_take 20 rfl (by kernel_rfl) (by first | exact List.Sublist.refl _ | exact List.sublist_append_left _ _) (by exact pv_load ld_3 rfl (box_cell .z (.s (.s (.s (.s (.s .z))))))) rfl ?_
    refine dr_take 22 rfl (by kernel_rfl) (by first | exact List.Sublist.refl _ | exact List.sublist_append_left _ _) (pv_field0 fa_27_6 rfl (r := 6) rfl) rfl ?_
    refine dr_take 23 rfl (by kernel_rfl) (by first | exact List.Sublist.refl _ | exact List.sublist_append_left _ _) (by exact pv_load ld_3 rfl (box_cell .z (.s (.s (.s (.s (.s (.s .z)))))))) rfl ?_
    refine dr_two 2 26 (by kernel_rfl) rfl rfl ?_ ?_
    · skip
      refine at_does (does_val cal12 rfl rfl rfl (fun w hs => mod_any _ _ w (by decide))) rfl (fun _ => ?_)
      refine at_nil (dr_next (fun _ => (by first | exact List.Sublist.refl _ | exact List.sublist_append_left _ _)) ?_)
      refine dr_take 3 rfl (by kernel_rfl) (by first | exact List.Sublist.refl _ | exact List.sublist_append_left _ _) (by first | exact pv_add_n rfl rfl (by unfold In64; omega) | exact pv_add rfl rfl) rfl ?_
      refine dr_two 6 26 (by kernel_rfl) rfl rfl ?_ ?_
      · skip
        refine at_does (does_val cal12 rfl rfl rfl (fun w hs => mod_any _ _ w (by decide))) rfl (fun _ => ?_)
        refine at_nil (dr_next (fun _ => (by first | exact List.Sublist.refl _ | exact List.sublist_append_left _ _)) ?_)
        refine dr_take 7 rfl (by kernel_rfl) (by first | exact List.Sublist.refl _ | exact List.sublist_append_left _ _) (by first | exact pv_add_n rfl rfl (by unfold In64; omega) | exact pv_add rfl rfl) rfl ?_
        refine dr_two 10 26 (by kernel_rfl) rfl rfl ?_ ?_
        · skip
          refine at_does (does_val cal12 rfl rfl rfl (fun w hs => mod_any _ _ w (by decide))) rfl (fun _ => ?_)
          refine at_nil (dr_next (fun _ => (by first | exact List.Sublist.refl _ | exact List.sublist_append_left _ _)) ?_)
          refine dr_take 11 rfl (by kernel_rfl) (by first | exact List.Sublist.refl _ | exact List.sublist_append_left _ _) (by first | exact pv_add_n rfl rfl (by unfold In64; omega) | exact pv_add rfl rfl) rfl ?_
          refine dr_two 14 26 (by kernel_rfl) rfl rfl ?_ ?_
          · skip
            refine at_does (does_val cal12 rfl rfl rfl (fun w hs => mod_any _ _ w (by decide))) rfl (fun _ => ?_)
            refine at_nil (dr_next (fun _ => (by first | exact List.Sublist.refl _ | exact List.sublist_append_left _ _)) ?_)
            refine dr_two 17 26 (by kernel_rfl) rfl rfl ?_ ?_
            · skip
              refine at_does (does_val cal12 rfl rfl rfl (fun w hs => mod_any _ _ w (by decide))) rfl (fun _ => ?_)
              refine at_nil (dr_next (fun _ => (by first | exact List.Sublist.refl _ | exact List.sublist_append_left _ _)) ?_)
              refine dr_take 18 rfl (by kernel_rfl) (by first | exact List.Sublist.refl _ | exact List.sublist_append_left _ _) (by first | exact pv_add_n rfl rfl (by unfold In64; omega) | exact pv_add rfl rfl) rfl ?_
              refine dr_two 21 26 (by kernel_rfl) rfl rfl ?_ ?_
              · skip
                refine at_does (does_val cal12 rfl rfl rfl (fun w hs => mod_any _ _ w (by decide))) rfl (fun _ => ?_)
                refine at_nil (dr_next (fun _ => (by first | exact List.Sublist.refl _ | exact List.sublist_append_left _ _)) ?_)
                refine dr_two 24 26 (by kernel_rfl) rfl rfl ?_ ?_
                · skip
                  refine at_does (does_val cal12 rfl rfl rfl (fun w hs => mod_any _ _ w (by decide))) rfl (fun _ => ?_)
                  refine at_nil (dr_next (fun _ => (by first | exact List.Sublist.refl _ | exact List.sublist_append_left _ _)) ?_)
                  refine dr_take 25 rfl (by kernel_rfl) (by first | exact List.Sublist.refl _ | exact List.sublist_append_left _ _) (pv_build rfl (bu_27_0_1_2_3_4_5_6 _ _ _ _ _ _ _)) rfl ?_
                  refine dr_one 26 (by kernel_rfl) rfl ?_
                  refine at_does (does_alloc ze_27 .agg (fun _ => (.cons (.cons .nil)))) rfl (fun g3 => ?_)
                  refine at_nil (dr_next (fun _ => (by first | exact List.Sublist.refl _ | exact List.sublist_append_left _ _)) ?_)
                  refine dr_one 27 (by kernel_rfl) rfl ?_
                  refine at_turns (by exact turns_store sz_27 rfl rfl .agg rfl rfl (.s (.s .z)) (.rep (.rep (.rep (.rep (.rep (.rep (.rep .done))))))) (.s (.s .z))) ?_
                  refine at_nil (dr_next (fun h => by cases h) ?_)
                  refine dr_done (by kernel_rfl) ?_
                  exact ex_meet _ trivial ⟨rfl, rfl, rfl, rfl, trivial⟩ (List.Sublist.refl _)
                · skip
                  refine at_does (does_alloc ze_27 .agg (fun _ => (.cons (.cons .nil)))) rfl (fun g4 => ?_)
                  refine at_nil (dr_next (fun _ => (by first | exact List.Sublist.refl _ | exact List.sublist_append_left _ _)) ?_)
                  refine dr_one 24 (by kernel_rfl) rfl ?_
                  refine at_does (does_val cal12 rfl rfl rfl (fun w hs => mod_any _ _ w (by decide))) rfl (fun _ => ?_)
                  refine at_nil (dr_next (fun _ => (by first | exact List.Sublist.refl _ | exact List.sublist_append_left _ _)) ?_)
                  refine dr_take 25 rfl (by kernel_rfl) (by first | exact List.Sublist.refl _ | exact List.sublist_append_left _ _) (pv_build rfl (bu_27_0_1_2_3_4_5_6 _ _ _ _ _ _ _)) rfl ?_
                  refine dr_one 27 (by kernel_rfl) rfl ?_
                  refine at_turns (by exact turns_store sz_27 rfl rfl .agg rfl rfl (.s (.s .z)) (.rep (.rep (.rep (.rep (.rep (.rep (.rep .done))))))) (.s (.s .z))) ?_
                  refine at_nil (dr_next (fun h => by cases h) ?_)
                  refine dr_done (by kernel_rfl) ?_
                  exact ex_meet _ trivial ⟨rfl, rfl, rfl, rfl, trivial⟩ (List.Sublist.refl _)
              · skip
                refine at_does (does_alloc ze_27 .agg (fun _ => (.cons (.cons .nil)))) rfl (fun g5 => ?_)
                refine at_nil (dr_next (fun _ => (by first | exact List.Sublist.refl _ | exact List.sublist_append_left _ _)) ?_)
                refine dr_one 21 (by kernel_rfl) rfl ?_
                refine at_does (does_val cal12 rfl rfl rfl (fun w hs => mod_any _ _ w (by decide))) rfl (fun _ => ?_)
                refine at_nil (dr_next (fun _ => (by first | exact List.Sublist.refl _ | exact List.sublist_append_left _ _)) ?_)
                refine dr_one 24 (by kernel_rfl) rfl ?_
                refine at_does (does_val cal12 rfl rfl rfl (fun w hs => mod_any _ _ w (by decide))) rfl (fun _ => ?_)
                refine at_nil (dr_next (fun _ => (by first | exact List.Sublist.refl _ | exact List.sublist_append_left _ _)) ?_)
                refine dr_take 25 rfl (by kernel_rfl) (by first | exact List.Sublist.refl _ | exact List.sublist_append_left _ _) (pv_build rfl (bu_27_0_1_2_3_4_5_6 _ _ _ _ _ _ _)) rfl ?_
                refine dr_one 27 (by kernel_rfl) rfl ?_
                refine at_turns (by exact turns_store sz_27 rfl rfl .agg rfl rfl (.s (.s .z)) (.rep (.rep (.rep (.rep (.rep (.rep (.rep .done))))))) (.s (.s .z))) ?_
                refine at_nil (dr_next (fun h => by cases h) ?_)
                refine dr_done (by kernel_rfl) ?_
                exact ex_meet _ trivial ⟨rfl, rfl, rfl, rfl, trivial⟩ (List.Sublist.refl _)
            · skip
              refine at_does (does_alloc ze_27 .agg (fun _ => (.cons (.cons .nil)))) rfl (fun g6 => ?_)
              refine at_nil (dr_next (fun _ => (by first | exact List.Sublist.refl _ | exact List.sublist_append_left _ _)) ?_)
              refine dr_one 17 (by kernel_rfl) rfl ?_
              refine at_does (does_val cal12 rfl rfl rfl (fun w hs => mod_any _ _ w (by decide))) rfl (fun _ => ?_)
              refine at_nil (dr_next (fun _ => (by first | exact List.Sublist.refl _ | exact List.sublist_append_left _ _)) ?_)
              refine dr_take 18 rfl (by kernel_rfl) (by first | exact List.Sublist.refl _ | exact List.sublist_append_left _ _) (by first | exact pv_add_n rfl rfl (by unfold In64; omega) | exact pv_add rfl rfl) rfl ?_
              refine dr_one 21 (by kernel_rfl) rfl ?_
              refine at_does (does_val cal12 rfl rfl rfl (fun w hs => mod_any _ _ w (by decide))) rfl (fun _ => ?_)
              refine at_nil (dr_next (fun _ => (by first | exact List.Sublist.refl _ | exact List.sublist_append_left _ _)) ?_)
              refine dr_one 24 (by kernel_rfl) rfl ?_
              refine at_does (does_val cal12 rfl rfl rfl (fun w hs => mod_any _ _ w (by decide))) rfl (fun _ => ?_)
              refine at_nil (dr_next (fun _ => (by first | exact List.Sublist.refl _ | exact List.sublist_append_left _ _)) ?_)
              refine dr_take 25 rfl (by kernel_rfl) (by first | exact List.Sublist.refl _ | exact List.sublist_append_left _ _) (pv_build rfl (bu_27_0_1_2_3_4_5_6 _ _ _ _ _ _ _)) rfl ?_
              refine dr_one 27 (by kernel_rfl) rfl ?_
              refine at_turns (by exact turns_store sz_27 rfl rfl .agg rfl rfl (.s (.s .z)) (.rep (.rep (.rep (.rep (.rep (.rep (.rep .done))))))) (.s (.s .z))) ?_
              refine at_nil (dr_next (fun h => by cases h) ?_)
              refine dr_done (by kernel_rfl) ?_
              exact ex_meet _ trivial ⟨rfl, rfl, rfl, rfl, trivial⟩ (List.Sublist.refl _)
          · skip
            refine at_does (does_alloc ze_27 .agg (fun _ => (.cons (.cons .nil)))) rfl (fun g7 => ?_)
            refine at_nil (dr_next (fun _ => (by first | exact List.Sublist.refl _ | exact List.sublist_append_left _ _)) ?_)
            refine dr_one 14 (by kernel_rfl) rfl ?_
            refine at_does (does_val cal12 rfl rfl rfl (fun w hs => mod_any _ _ w (by decide))) rfl (fun _ => ?_)
            refine at_nil (dr_next (fun _ => (by first | exact List.Sublist.refl _ | exact List.sublist_append_left _ _)) ?_)
            refine dr_one 17 (by kernel_rfl) rfl ?_
            refine at_does (does_val cal12 rfl rfl rfl (fun w hs => mod_any _ _ w (by decide))) rfl (fun _ => ?_)
            refine at_nil (dr_next (fun _ => (by first | exact List.Sublist.refl _ | exact List.sublist_append_left _ _)) ?_)
            refine dr_take 18 rfl (by kernel_rfl) (by first | exact List.Sublist.refl _ | exact List.sublist_append_left _ _) (by first | exact pv_add_n rfl rfl (by unfold In64; omega) | exact pv_add rfl rfl) rfl ?_
            refine dr_one 21 (by kernel_rfl) rfl ?_
            refine at_does (does_val cal12 rfl rfl rfl (fun w hs => mod_any _ _ w (by decide))) rfl (fun _ => ?_)
            refine at_nil (dr_next (fun _ => (by first | exact List.Sublist.refl _ | exact List.sublist_append_left _ _)) ?_)
            refine dr_one 24 (by kernel_rfl) rfl ?_
            refine at_does (does_val cal12 rfl rfl rfl (fun w hs => mod_any _ _ w (by decide))) rfl (fun _ => ?_)
            refine at_nil (dr_next (fun _ => (by first | exact List.Sublist.refl _ | exact List.sublist_append_left _ _)) ?_)
            refine dr_take 25 rfl (by kernel_rfl) (by first | exact List.Sublist.refl _ | exact List.sublist_append_left _ _) (pv_build rfl (bu_27_0_1_2_3_4_5_6 _ _ _ _ _ _ _)) rfl ?_
            refine dr_one 27 (by kernel_rfl) rfl ?_
            refine at_turns (by exact turns_store sz_27 rfl rfl .agg rfl rfl (.s (.s .z)) (.rep (.rep (.rep (.rep (.rep (.rep (.rep .done))))))) (.s (.s .z))) ?_
            refine at_nil (dr_next (fun h => by cases h) ?_)
            refine dr_done (by kernel_rfl) ?_
            exact ex_meet _ trivial ⟨rfl, rfl, rfl, rfl, trivial⟩ (List.Sublist.refl _)
        · skip
          refine at_does (does_alloc ze_27 .agg (fun _ => (.cons (.cons .nil)))) rfl (fun g8 => ?_)
          refine at_nil (dr_next (fun _ => (by first | exact List.Sublist.refl _ | exact List.sublist_append_left _ _)) ?_)
          refine dr_one 10 (by kernel_rfl) rfl ?_
          refine at_does (does_val cal12 rfl rfl rfl (fun w hs => mod_any _ _ w (by decide))) rfl (fun _ => ?_)
          refine at_nil (dr_next (fun _ => (by first | exact List.Sublist.refl _ | exact List.sublist_append_left _ _)) ?_)
          refine dr_take 11 rfl (by kernel_rfl) (by first | exact List.Sublist.refl _ | exact List.sublist_append_left _ _) (by first | exact pv_add_n rfl rfl (by unfold In64; omega) | exact pv_add rfl rfl) rfl ?_
          refine dr_one 14 (by kernel_rfl) rfl ?_
          refine at_does (does_val cal12 rfl rfl rfl (fun w hs => mod_any _ _ w (by decide))) rfl (fun _ => ?_)
          refine at_nil (dr_next (fun _ => (by first | exact List.Sublist.refl _ | exact List.sublist_append_left _ _)) ?_)
          refine dr_one 17 (by kernel_rfl) rfl ?_
          refine at_does (does_val cal12 rfl rfl rfl (fun w hs => mod_any _ _ w (by decide))) rfl (fun _ => ?_)
          refine at_nil (dr_next (fun _ => (by first | exact List.Sublist.refl _ | exact List.sublist_append_left _ _)) ?_)
          refine dr_take 18 rfl (by kernel_rfl) (by first | exact List.Sublist.refl _ | exact List.sublist_append_left _ _) (by first | exact pv_add_n rfl rfl (by unfold In64; omega) | exact pv_add rfl rfl) rfl ?_
          refine dr_one 21 (by kernel_rfl) rfl ?_
          refine at_does (does_val cal12 rfl rfl rfl (fun w hs => mod_any _ _ w (by decide))) rfl (fun _ => ?_)
          refine at_nil (dr_next (fun _ => (by first | exact List.Sublist.refl _ | exact List.sublist_append_left _ _)) ?_)
          refine dr_one 24 (by kernel_rfl) rfl ?_
          refine at_does (does_val cal12 rfl rfl rfl (fun w hs => mod_any _ _ w (by decide))) rfl (fun _ => ?_)
          refine at_nil (dr_next (fun _ => (by first | exact List.Sublist.refl _ | exact List.sublist_append_left _ _)) ?_)
          refine dr_take 25 rfl (by kernel_rfl) (by first | exact List.Sublist.refl _ | exact List.sublist_append_left _ _) (pv_build rfl (bu_27_0_1_2_3_4_5_6 _ _ _ _ _ _ _)) rfl ?_
          refine dr_one 27 (by kernel_rfl) rfl ?_
          refine at_turns (by exact turns_store sz_27 rfl rfl .agg rfl rfl (.s (.s .z)) (.rep (.rep (.rep (.rep (.rep (.rep (.rep .done))))))) (.s (.s .z))) ?_
          refine at_nil (dr_next (fun h => by cases h) ?_)
          refine dr_done (by kernel_rfl) ?_
          exact ex_meet _ trivial ⟨rfl, rfl, rfl, rfl, trivial⟩ (List.Sublist.refl _)
      · skip
        refine at_does (does_alloc ze_27 .agg (fun _ => (.cons (.cons .nil)))) rfl (fun g9 => ?_)
        refine at_nil (dr_next (fun _ => (by first | exact List.Sublist.refl _ | exact List.sublist_append_left _ _)) ?_)
        refine dr_one 6 (by kernel_rfl) rfl ?_
        refine at_does (does_val cal12 rfl rfl rfl (fun w hs => mod_any _ _ w (by decide))) rfl (fun _ => ?_)
        refine at_nil (dr_next (fun _ => (by first | exact List.Sublist.refl _ | exact List.sublist_append_left _ _)) ?_)
        refine dr_take 7 rfl (by kernel_rfl) (by first | exact List.Sublist.refl _ | exact List.sublist_append_left _ _) (by first | exact pv_add_n rfl rfl (by unfold In64; omega) | exact pv_add rfl rfl) rfl ?_
        refine dr_one 10 (by kernel_rfl) rfl ?_
        refine at_does (does_val cal12 rfl rfl rfl (fun w hs => mod_any _ _ w (by decide))) rfl (fun _ => ?_)
        refine at_nil (dr_next (fun _ => (by first | exact List.Sublist.refl _ | exact List.sublist_append_left _ _)) ?_)
        refine dr_take 11 rfl (by kernel_rfl) (by first | exact List.Sublist.refl _ | exact List.sublist_append_left _ _) (by first | exact pv_add_n rfl rfl (by unfold In64; omega) | exact pv_add rfl rfl) rfl ?_
        refine dr_one 14 (by kernel_rfl) rfl ?_
        refine at_does (does_val cal12 rfl rfl rfl (fun w hs => mod_any _ _ w (by decide))) rfl (fun _ => ?_)
        refine at_nil (dr_next (fun _ => (by first | exact List.Sublist.refl _ | exact List.sublist_append_left _ _)) ?_)
        refine dr_one 17 (by kernel_rfl) rfl ?_
        refine at_does (does_val cal12 rfl rfl rfl (fun w hs => mod_any _ _ w (by decide))) rfl (fun _ => ?_)
        refine at_nil (dr_next (fun _ => (by first | exact List.Sublist.refl _ | exact List.sublist_append_left _ _)) ?_)
        refine dr_take 18 rfl (by kernel_rfl) (by first | exact List.Sublist.refl _ | exact List.sublist_append_left _ _) (by first | exact pv_add_n rfl rfl (by unfold In64; omega) | exact pv_add rfl rfl) rfl ?_
        refine dr_one 21 (by kernel_rfl) rfl ?_
        refine at_does (does_val cal12 rfl rfl rfl (fun w hs => mod_any _ _ w (by decide))) rfl (fun _ => ?_)
        refine at_nil (dr_next (fun _ => (by first | exact List.Sublist.refl _ | exact List.sublist_append_left _ _)) ?_)
        refine dr_one 24 (by kernel_rfl) rfl ?_
        refine at_does (does_val cal12 rfl rfl rfl (fun w hs => mod_any _ _ w (by decide))) rfl (fun _ => ?_)
        refine at_nil (dr_next (fun _ => (by first | exact List.Sublist.refl _ | exact List.sublist_append_left _ _)) ?_)
        refine dr_take 25 rfl (by kernel_rfl) (by first | exact List.Sublist.refl _ | exact List.sublist_append_left _ _) (pv_build rfl (bu_27_0_1_2_3_4_5_6 _ _ _ _ _ _ _)) rfl ?_
        refine dr_one 27 (by kernel_rfl) rfl ?_
        refine at_turns (by exact turns_store sz_27 rfl rfl .agg rfl rfl (.s (.s .z)) (.rep (.rep (.rep (.rep (.rep (.rep (.rep .done))))))) (.s (.s .z))) ?_
        refine at_nil (dr_next (fun h => by cases h) ?_)
        refine dr_done (by kernel_rfl) ?_
        exact ex_meet _ trivial ⟨rfl, rfl, rfl, rfl, trivial⟩ (List.Sublist.refl _)
    · skip
      refine at_does (does_alloc ze_27 .agg (fun _ => (.cons (.cons .nil)))) rfl (fun g10 => ?_)
      refine at_nil (dr_next (fun _ => (by first | exact List.Sublist.refl _ | exact List.sublist_append_left _ _)) ?_)
      refine dr_one 2 (by kernel_rfl) rfl ?_
      refine at_does (does_val cal12 rfl rfl rfl (fun w hs => mod_any _ _ w (by decide))) rfl (fun _ => ?_)
      refine at_nil (dr_next (fun _ => (by first | exact List.Sublist.refl _ | exact List.sublist_append_left _ _)) ?_)
      refine dr_take 3 rfl (by kernel_rfl) (by first | exact List.Sublist.refl _ | exact List.sublist_append_left _ _) (by first | exact pv_add_n rfl rfl (by unfold In64; omega) | exact pv_add rfl rfl) rfl ?_
      refine dr_one 6 (by kernel_rfl) rfl ?_
      refine at_does (does_val cal12 rfl rfl rfl (fun w hs => mod_any _ _ w (by decide))) rfl (fun _ => ?_)
      refine at_nil (dr_next (fun _ => (by first | exact List.Sublist.refl _ | exact List.sublist_append_left _ _)) ?_)
      refine dr_take 7 rfl (by kernel_rfl) (by first | exact List.Sublist.refl _ | exact List.sublist_append_left _ _) (by first | exact pv_add_n rfl rfl (by unfold In64; omega) | exact pv_add rfl rfl) rfl ?_
      refine dr_one 10 (by kernel_rfl) rfl ?_
      refine at_does (does_val cal12 rfl rfl rfl (fun w hs => mod_any _ _ w (by decide))) rfl (fun _ => ?_)
      refine at_nil (dr_next (fun _ => (by first | exact List.Sublist.refl _ | exact List.sublist_append_left _ _)) ?_)
      refine dr_take 11 rfl (by kernel_rfl) (by first | exact List.Sublist.refl _ | exact List.sublist_append_left _ _) (by first | exact pv_add_n rfl rfl (by unfold In64; omega) | exact pv_add rfl rfl) rfl ?_
      refine dr_one 14 (by kernel_rfl) rfl ?_
      refine at_does (does_val cal12 rfl rfl rfl (fun w hs => mod_any _ _ w (by decide))) rfl (fun _ => ?_)
      refine at_nil (dr_next (fun _ => (by first | exact List.Sublist.refl _ | exact List.sublist_append_left _ _)) ?_)
      refine dr_one 17 (by kernel_rfl) rfl ?_
      refine at_does (does_val cal12 rfl rfl rfl (fun w hs => mod_any _ _ w (by decide))) rfl (fun _ => ?_)
      refine at_nil (dr_next (fun _ => (by first | exact List.Sublist.refl _ | exact List.sublist_append_left _ _)) ?_)
      refine dr_take 18 rfl (by kernel_rfl) (by first | exact List.Sublist.refl _ | exact List.sublist_append_left _ _) (by first | exact pv_add_n rfl rfl (by unfold In64; omega) | exact pv_add rfl rfl) rfl ?_
      refine dr_one 21 (by kernel_rfl) rfl ?_
      refine at_does (does_val cal12 rfl rfl rfl (fun w hs => mod_any _ _ w (by decide))) rfl (fun _ => ?_)
      refine at_nil (dr_next (fun _ => (by first | exact List.Sublist.refl _ | exact List.sublist_append_left _ _)) ?_)
      refine dr_one 24 (by kernel_rfl) rfl ?_
      refine at_does (does_val cal12 rfl rfl rfl (fun w hs => mod_any _ _ w (by decide))) rfl (fun _ => ?_)
      refine at_nil (dr_next (fun _ => (by first | exact List.Sublist.refl _ | exact List.sublist_append_left _ _)) ?_)
      refine dr_take 25 rfl (by kernel_rfl) (by first | exact List.Sublist.refl _ | exact List.sublist_append_left _ _) (pv_build rfl (bu_27_0_1_2_3_4_5_6 _ _ _ _ _ _ _)) rfl ?_
      refine dr_one 27 (by kernel_rfl) rfl ?_
      refine at_turns (by exact turns_store sz_27 rfl rfl .agg rfl rfl (.s (.s .z)) (.rep (.rep (.rep (.rep (.rep (.rep (.rep .done))))))) (.s (.s .z))) ?_
      refine at_nil (dr_next (fun h => by cases h) ?_)
      refine dr_done (by kernel_rfl) ?_
      exact ex_meet _ trivial ⟨rfl, rfl, rfl, rfl, trivial⟩ (List.Sublist.refl _)
  · rintro g3 -
    refine cd_seq ?_
    refine cd_region ?_
    refine at_pure (by exact pv_loads_box ag_27 rfl (.s (.s .z)) (.take (.take (.take (.take (.take (.take (.take .done)))))))) rfl ?_
    refine at_does (does_alloc ze_27 .agg (fun _ => (.cons (.cons (.cons .nil))))) rfl (fun g11 => ?_)
    refine at_turns (by exact turns_store sz_27 rfl rfl .agg rfl rfl (.s (.s (.s .z))) (.rep (.rep (.rep (.rep (.rep (.rep (.rep .done))))))) (.s (.s (.s .z)))) ?_
    refine at_nil ?_
    refine ex_go ?_
    refine cd_seq ?_
    refine cd_seq ?_
    refine cd_region ?_
    refine at_pure (pv_move rfl) rfl ?_
    refine at_does (does_val cal12 rfl rfl rfl (fun w hs => mod_any _ _ w (by decide))) rfl (fun _ => ?_)
    refine at_nil ?_
    refine ex_go ?_
    refine cd_block ?_
    refine cd_seq ?_
    refine cd_region ?_
    refine at_pure (pv_eql rfl rfl) rfl ?_
    refine at_pure (pv_assign rfl) rfl ?_
    refine at_nil ?_
    refine ex_go ?_
    refine cd_if rfl (fun hb1 => ?_) (fun hb1 => ?_)
    · skip
      refine cd_region ?_
      refine at_pure (pv_field0 fa_27_3 rfl (r := 3) rfl) rfl ?_
      refine at_pure (by exact pv_load ld_3 rfl (box_cell .z (.s (.s (.s .z))))) rfl ?_
      refine at_pure (pv_field0 fa_27_3 rfl (r := 3) rfl) rfl ?_
      refine at_turns (by exact turns_store sz_3 rfl rfl (.one rfl) rfl rfl (.s (.s (.s .z))) (.skip (.skip (.skip (.rep .done)))) (.s (.s (.s .z)))) ?_
      refine at_nil ?_
      refine ex_in_normal (ex_go ?_)
      refine cd_seq ?_
      refine cd_seq ?_
      refine cd_region ?_
      refine at_pure (by exact pv_loads_box ag_27 rfl .z (.take (.take (.take (.take (.take (.take (.take .done)))))))) rfl ?_
      refine at_pure (by exact pv_loads_box ag_27 rfl (.s (.s .z)) (.take (.take (.take (.take (.take (.take (.take .done)))))))) rfl ?_
      refine at_pure (by exact pv_loads_box ag_27 rfl (.s (.s (.s .z))) (.take (.take (.take (.take (.take (.take (.take .done)))))))) rfl ?_
      refine at_does (does_list (by rfl) (by exact (bs_30_3_0_1_2 _ _ _ _ _ _ _ _ _ _ _ _ _ _ _ _ _ _ _ _ _)) (by exact (fun _ => (.cons (.cons (.cons (.cons .nil))))))) rfl (fun g12 => ?_)
      refine at_pure (pv_len Try.underlying30 rfl) rfl ?_
      refine at_pure (pv_move rfl) rfl ?_
      refine at_nil ?_
      refine ex_go ?_
      refine cd_block ?_
      refine cd_rounds 3 ?_
      refine cd_seq ?_
      refine cd_region ?_
      refine at_pure (pv_lss rfl rfl) rfl ?_
      refine at_nil ?_
      refine ex_go ?_
      refine cd_seq ?_
      refine cd_then rfl (by decide) ?_
      refine cd_skip ?_
      refine ex_go ?_
      refine cd_seq ?_
      refine cd_block ?_
      refine cd_seq ?_
      refine cd_region ?_
      refine at_pure (pv_indexLit Try.underlying30 cz_27 rfl rfl (by decide) rfl) rfl ?_
      refine at_pure (by exact pv_loads_box ag_27 rfl (.s (.s (.s (.s .z)))) (.take (.take (.take (.take (.take (.take (.take .done)))))))) rfl ?_
      refine at_does (does_alloc ze_27 .agg (fun _ => (.cons (.cons (.cons (.cons (.cons .nil))))))) rfl (fun g13 => ?_)
      refine at_turns (by exact turns_store sz_27 rfl rfl .agg rfl rfl (.s (.s (.s (.s (.s .z))))) (.rep (.rep (.rep (.rep (.rep (.rep (.rep .done))))))) (.s (.s (.s (.s (.s .z)))))) ?_
      refine at_nil ?_
      refine ex_go ?_
      refine cd_seq ?_
      refine cd_region ?_
      refine at_pure (by exact pv_loads_box ag_27 rfl (.s (.s (.s (.s (.s .z))))) (.take (.take (.take (.take (.take (.take (.take .done)))))))) rfl ?_
      refine at_does (does_val cal15 rfl rfl rfl (fun w hs => of_any _ _ _ _ _ _ _ w)) rfl (fun _ => ?_)
      refine at_pure (pv_move rfl) rfl ?_
      refine at_pure (pv_extract rfl rfl) rfl ?_
      refine at_pure (pv_extract rfl rfl) rfl ?_
      refine at_does (does_alloc ze_29 .agg (fun _ => (.cons (.cons (.cons (.cons (.cons (.cons .nil)))))))) rfl (fun g14 => ?_)
      refine at_turns (by exact turns_store sz_29 rfl rfl .agg rfl rfl (.s (.s (.s (.s (.s (.s .z)))))) (.rep (.rep (.rep (.rep (.rep .done))))) (.s (.s (.s (.s (.s (.s .z))))))) ?_
      refine at_pure (pv_assign rfl) rfl ?_
      refine at_nil ?_
      refine ex_go ?_
      refine cd_seq ?_
      refine cd_region ?_
      refine at_pure (by exact pv_loads_box ag_27 rfl (.s (.s (.s (.s (.s .z))))) (.take (.take (.take (.take (.take (.take (.take .done)))))))) rfl ?_
      refine at_does (does_val cal16 rfl rfl rfl (fun w hs => of_ref _ _ _ _ _ _ _ w)) rfl (fun _ => ?_)
      refine at_pure (pv_move rfl) rfl ?_
      refine at_pure (pv_extract rfl rfl) rfl ?_
      refine at_pure (pv_extract rfl rfl) rfl ?_
      refine at_does (does_alloc ze_29 .agg (fun _ => (.cons (.cons (.cons (.cons (.cons (.cons (.cons .nil))))))))) rfl (fun g15 => ?_)
      refine at_turns (by exact turns_store sz_29 rfl rfl .agg rfl rfl (.s (.s (.s (.s (.s (.s (.s .z))))))) (.rep (.rep (.rep (.rep (.rep .done))))) (.s (.s (.s (.s (.s (.s (.s .z)))))))) ?_
      refine at_pure (pv_assign rfl) rfl ?_
      refine at_nil ?_
      refine ex_go ?_
      refine cd_seq ?_
      refine cd_draw' 15 follows ?_
      refine dr_take 0 rfl (by kernel_rfl) (by first | exact List.Sublist.refl _ | exact List.sublist_append_left _ _) (by exact pv_loads_box ag_29 rfl (.s (.s (.s (.s (.s (.s .z)))))) (.take (.take (.take (.take (.take .done)))))) rfl ?_
      refine dr_take 1 rfl (by kernel_rfl) (by first | exact List.Sublist.refl _ | exact List.sublist_append_left _ _) (by exact pv_loads_box ag_29 rfl (.s (.s (.s (.s (.s (.s (.s .z))))))) (.take (.take (.take (.take (.take .done)))))) rfl ?_
      refine dr_take 2 rfl (by kernel_rfl) (by first | exact List.Sublist.refl _ | exact List.sublist_append_left _ _) (pv_neqls_same sb_29 rfl rfl rfl) rfl ?_
      refine dr_take 3 rfl (by kernel_rfl) (by first | exact List.Sublist.refl _ | exact List.sublist_append_left _ _) (pv_move rfl) rfl ?_
      refine dr_take_g 4 rfl rfl rfl rfl (by kernel_rfl) (by first | exact List.Sublist.refl _ | exact List.sublist_append_left _ _) (pv_move rfl) rfl ?_
      refine dr_take_g 5 rfl rfl rfl rfl (by kernel_rfl) (by first | exact List.Sublist.refl _ | exact List.sublist_append_left _ _) (pv_move rfl) rfl ?_
      refine dr_take_g 6 rfl rfl rfl rfl (by kernel_rfl) (by first | exact List.Sublist.refl _ | exact List.sublist_append_left _ _) (pv_neq_same rfl rfl) rfl ?_
      refine dr_take 7 rfl (by kernel_rfl) (by first | exact List.Sublist.refl _ | exact List.sublist_append_left _ _) (pv_pick_f rfl rfl rfl) rfl ?_
      refine dr_take 8 rfl (by kernel_rfl) (by first | exact List.Sublist.refl _ | exact List.sublist_append_left _ _) (pv_move rfl) rfl ?_
      refine dr_take_g 9 rfl rfl rfl rfl (by kernel_rfl) (by first | exact List.Sublist.refl _ | exact List.sublist_append_left _ _) (by exact pv_loads_box ag_29 rfl (.s (.s (.s (.s (.s (.s (.s .z))))))) (.take (.take (.take (.take (.take .done)))))) rfl ?_
      refine dr_take_g 11 rfl rfl rfl rfl (by kernel_rfl) (by first | exact List.Sublist.refl _ | exact List.sublist_append_left _ _) (by exact pv_loads_box ag_29 rfl (.s (.s (.s (.s (.s (.s (.s .z))))))) (.take (.take (.take (.take (.take .done)))))) rfl ?_
      refine dr_one 10 (by kernel_rfl) rfl ?_
      refine at_does_g rfl rfl rfl (does_val cal17 rfl rfl rfl (fun w hs => total_any _ _ _ _ _ w)) rfl (fun _ => ?_)
      refine at_nil (dr_next (fun _ => (by first | exact List.Sublist.refl _ | exact List.sublist_append_left _ _)) ?_)
      refine dr_one 12 (by kernel_rfl) rfl ?_
      refine at_does_g rfl rfl rfl (does_val cal18 rfl rfl rfl (fun w hs => total_ref _ _ _ _ _ w)) rfl (fun _ => ?_)
      refine at_nil (dr_next (fun _ => (by first | exact List.Sublist.refl _ | exact List.sublist_append_left _ _)) ?_)
      refine dr_take_g 13 rfl rfl rfl rfl (by kernel_rfl) (by first | exact List.Sublist.refl _ | exact List.sublist_append_left _ _) (pv_neq_same rfl rfl) rfl ?_
      refine dr_take 14 rfl (by kernel_rfl) (by first | exact List.Sublist.refl _ | exact List.sublist_append_left _ _) (pv_pick_f rfl rfl rfl) rfl ?_
      refine dr_done (by kernel_rfl) ?_
      refine ex_go ?_
      refine cd_else rfl rfl ?_
      refine cd_skip ?_
      refine ex_in_normal (ex_go ?_)
      refine cd_region ?_
      refine at_pure (by first | exact pv_add_n rfl rfl (by unfold In64; omega) | exact pv_add rfl rfl) rfl ?_
      refine at_pure (pv_move rfl) rfl ?_
      refine at_nil ?_
      refine ex_round ?_
      refine cd_seq ?_
      refine cd_region ?_
      refine at_pure (pv_lss rfl rfl) rfl ?_
      refine at_nil ?_
      refine ex_go ?_
      refine cd_seq ?_
      refine cd_then rfl (by decide) ?_
      refine cd_skip ?_
      refine ex_go ?_
      refine cd_seq ?_
      refine cd_block ?_
      refine cd_seq ?_
      refine cd_region ?_
      refine at_pure (pv_indexLit Try.underlying30 cz_27 rfl rfl (by decide) rfl) rfl ?_
      refine at_pure (by exact pv_loads_box ag_27 rfl (.s (.s (.s (.s .z)))) (.skip (.skip (.skip (.skip (.skip (.skip (.skip (.take (.take (.take (.take (.take (.take (.take .done))))))))))))))) rfl ?_
      refine at_does (does_alloc ze_27 .agg (fun _ => (.cons (.cons (.cons (.cons (.cons (.cons (.cons (.cons .nil)))))))))) rfl (fun g16 => ?_)
      refine at_turns (by exact turns_store sz_27 rfl rfl .agg rfl rfl (.s (.s (.s (.s (.s (.s (.s (.s .z)))))))) (.rep (.rep (.rep (.rep (.rep (.rep (.rep .done))))))) (.s (.s (.s (.s (.s (.s (.s (.s .z))))))))) ?_
      refine at_nil ?_
      refine ex_go ?_
      refine cd_seq ?_
      refine cd_region ?_
      refine at_pure (by exact pv_loads_box ag_27 rfl (.s (.s (.s (.s (.s (.s (.s (.s .z)))))))) (.take (.take (.take (.take (.take (.take (.take .done)))))))) rfl ?_
      refine at_does (does_val cal15 rfl rfl rfl (fun w hs => of_any _ _ _ _ _ _ _ w)) rfl (fun _ => ?_)
      refine at_pure (pv_move rfl) rfl ?_
      refine at_pure (pv_extract rfl rfl) rfl ?_
      refine at_pure (pv_extract rfl rfl) rfl ?_
      refine at_does (does_alloc ze_29 .agg (fun _ => (.cons (.cons (.cons (.cons (.cons (.cons (.cons (.cons (.cons .nil))))))))))) rfl (fun g17 => ?_)
      refine at_turns (by exact turns_store sz_29 rfl rfl .agg rfl rfl (.s (.s (.s (.s (.s (.s (.s (.s (.s .z))))))))) (.rep (.rep (.rep (.rep (.rep .done))))) (.s (.s (.s (.s (.s (.s (.s (.s (.s .z)))))))))) ?_
      refine at_pure (pv_assign rfl) rfl ?_
      refine at_nil ?_
      refine ex_go ?_
      refine cd_seq ?_
      refine cd_region ?_
      refine at_pure (by exact pv_loads_box ag_27 rfl (.s (.s (.s (.s (.s (.s (.s (.s .z)))))))) (.take (.take (.take (.take (.take (.take (.take .done)))))))) rfl ?_
      refine at_does (does_val cal16 rfl rfl rfl (fun w hs => of_ref _ _ _ _ _ _ _ w)) rfl (fun _ => ?_)
      refine at_pure (pv_move rfl) rfl ?_
      refine at_pure (pv_extract rfl rfl) rfl ?_
      refine at_pure (pv_extract rfl rfl) rfl ?_
      refine at_does (does_alloc ze_29 .agg (fun _ => (.cons (.cons (.cons (.cons (.cons (.cons (.cons (.cons (.cons (.cons .nil)))))))))))) rfl (fun g18 => ?_)
      refine at_turns (by exact turns_store sz_29 rfl rfl .agg rfl rfl (.s (.s (.s (.s (.s (.s (.s (.s (.s (.s .z)))))))))) (.rep (.rep (.rep (.rep (.rep .done))))) (.s (.s (.s (.s (.s (.s (.s (.s (.s (.s .z))))))))))) ?_
      refine at_pure (pv_assign rfl) rfl ?_
      refine at_nil ?_
      refine ex_go ?_
      refine cd_seq ?_
      refine cd_draw' 15 follows ?_
      refine dr_take 0 rfl (by kernel_rfl) (by first | exact List.Sublist.refl _ | exact List.sublist_append_left _ _) (by exact pv_loads_box ag_29 rfl (.s (.s (.s (.s (.s (.s (.s (.s (.s .z))))))))) (.take (.take (.take (.take (.take .done)))))) rfl ?_
      refine dr_take 1 rfl (by kernel_rfl) (by first | exact List.Sublist.refl _ | exact List.sublist_append_left _ _) (by exact pv_loads_box ag_29 rfl (.s (.s (.s (.s (.s (.s (.s (.s (.s (.s .z)))))))))) (.take (.take (.take (.take (.take .done)))))) rfl ?_
      refine dr_take 2 rfl (by kernel_rfl) (by first | exact List.Sublist.refl _ | exact List.sublist_append_left _ _) (pv_neqls_same sb_29 rfl rfl rfl) rfl ?_
      refine dr_take 3 rfl (by kernel_rfl) (by first | exact List.Sublist.refl _ | exact List.sublist_append_left _ _) (pv_move rfl) rfl ?_
      refine dr_take_g 4 rfl rfl rfl rfl (by kernel_rfl) (by first | exact List.Sublist.refl _ | exact List.sublist_append_left _ _) (pv_move rfl) rfl ?_
      refine dr_take_g 5 rfl rfl rfl rfl (by kernel_rfl) (by first | exact List.Sublist.refl _ | exact List.sublist_append_left _ _) (pv_move rfl) rfl ?_
      refine dr_take_g 6 rfl rfl rfl rfl (by kernel_rfl) (by first | exact List.Sublist.refl _ | exact List.sublist_append_left _ _) (pv_neq_same rfl rfl) rfl ?_
      refine dr_take 7 rfl (by kernel_rfl) (by first | exact List.Sublist.refl _ | exact List.sublist_append_left _ _) (pv_pick_f rfl rfl rfl) rfl ?_
      refine dr_take 8 rfl (by kernel_rfl) (by first | exact List.Sublist.refl _ | exact List.sublist_append_left _ _) (pv_move rfl) rfl ?_
      refine dr_take_g 9 rfl rfl rfl rfl (by kernel_rfl) (by first | exact List.Sublist.refl _ | exact List.sublist_append_left _ _) (by exact pv_loads_box ag_29 rfl (.s (.s (.s (.s (.s (.s (.s (.s (.s (.s .z)))))))))) (.take (.take (.take (.take (.take .done)))))) rfl ?_
      refine dr_take_g 11 rfl rfl rfl rfl (by kernel_rfl) (by first | exact List.Sublist.refl _ | exact List.sublist_append_left _ _) (by exact pv_loads_box ag_29 rfl (.s (.s (.s (.s (.s (.s (.s (.s (.s (.s .z)))))))))) (.take (.take (.take (.take (.take .done)))))) rfl ?_
      refine dr_one 10 (by kernel_rfl) rfl ?_
      refine at_does_g rfl rfl rfl (does_val cal17 rfl rfl rfl (fun w hs => total_any _ _ _ _ _ w)) rfl (fun _ => ?_)
      refine at_nil (dr_next (fun _ => (by first | exact List.Sublist.refl _ | exact List.sublist_append_left _ _)) ?_)
      refine dr_one 12 (by kernel_rfl) rfl ?_
      refine at_does_g rfl rfl rfl (does_val cal18 rfl rfl rfl (fun w hs => total_ref _ _ _ _ _ w)) rfl (fun _ => ?_)
      refine at_nil (dr_next (fun _ => (by first | exact List.Sublist.refl _ | exact List.sublist_append_left _ _)) ?_)
      refine dr_take_g 13 rfl rfl rfl rfl (by kernel_rfl) (by first | exact List.Sublist.refl _ | exact List.sublist_append_left _ _) (pv_neq_same rfl rfl) rfl ?_
      refine dr_take 14 rfl (by kernel_rfl) (by first | exact List.Sublist.refl _ | exact List.sublist_append_left _ _) (pv_pick_f rfl rfl rfl) rfl ?_
      refine dr_done (by kernel_rfl) ?_
      refine ex_go ?_
      refine cd_else rfl rfl ?_
      refine cd_skip ?_
      refine ex_in_normal (ex_go ?_)
      refine cd_region ?_
      refine at_pure (by first | exact pv_add_n rfl rfl (by unfold In64; omega) | exact pv_add rfl rfl) rfl ?_
      refine at_pure (pv_move rfl) rfl ?_
      refine at_nil ?_
      refine ex_round ?_
      refine cd_seq ?_
      refine cd_region ?_
      refine at_pure (pv_lss rfl rfl) rfl ?_
      refine at_nil ?_
      refine ex_go ?_
      refine cd_seq ?_
      refine cd_then rfl (by decide) ?_
      refine cd_skip ?_
      refine ex_go ?_
      refine cd_seq ?_
      refine cd_block ?_
      refine cd_seq ?_
      refine cd_region ?_
      refine at_pure (pv_indexLit Try.underlying30 cz_27 rfl rfl (by decide) rfl) rfl ?_
      refine at_pure (by exact pv_loads_box ag_27 rfl (.s (.s (.s (.s .z)))) (.skip (.skip (.skip (.skip (.skip (.skip (.skip (.skip (.skip (.skip (.skip (.skip (.skip (.skip (.take (.take (.take (.take (.take (.take (.take .done)))))))))))))))))))))) rfl ?_
      refine at_does (does_alloc ze_27 .agg (fun _ => (.cons (.cons (.cons (.cons (.cons (.cons (.cons (.cons (.cons (.cons (.cons .nil))))))))))))) rfl (fun g19 => ?_)
      refine at_turns (by exact turns_store sz_27 rfl rfl .agg rfl rfl (.s (.s (.s (.s (.s (.s (.s (.s (.s (.s (.s .z))))))))))) (.rep (.rep (.rep (.rep (.rep (.rep (.rep .done))))))) (.s (.s (.s (.s (.s (.s (.s (.s (.s (.s (.s .z)))))))))))) ?_
      refine at_nil ?_
      refine ex_go ?_
      refine cd_seq ?_
      refine cd_region ?_
      refine at_pure (by exact pv_loads_box ag_27 rfl (.s (.s (.s (.s (.s (.s (.s (.s (.s (.s (.s .z))))))))))) (.take (.take (.take (.take (.take (.take (.take .done)))))))) rfl ?_
      refine at_does (does_val cal15 rfl rfl rfl (fun w hs => of_any _ _ _ _ _ _ _ w)) rfl (fun _ => ?_)
      refine at_pure (pv_move rfl) rfl ?_
      refine at_pure (pv_extract rfl rfl) rfl ?_
      refine at_pure (pv_extract rfl rfl) rfl ?_
      refine at_does (does_alloc ze_29 .agg (fun _ => (.cons (.cons (.cons (.cons (.cons (.cons (.cons (.cons (.cons (.cons (.cons (.cons .nil)))))))))))))) rfl (fun g20 => ?_)
      refine at_turns (by exact turns_store sz_29 rfl rfl .agg rfl rfl (.s (.s (.s (.s (.s (.s (.s (.s (.s (.s (.s (.s .z)))))))))))) (.rep (.rep (.rep (.rep (.rep .done))))) (.s (.s (.s (.s (.s (.s (.s (.s (.s (.s (.s (.s .z))))))))))))) ?_
      refine at_pure (pv_assign rfl) rfl ?_
      refine at_nil ?_
      refine ex_go ?_
      refine cd_seq ?_
      refine cd_region ?_
      refine at_pure (by exact pv_loads_box ag_27 rfl (.s (.s (.s (.s (.s (.s (.s (.s (.s (.s (.s .z))))))))))) (.take (.take (.take (.take (.take (.take (.take .done)))))))) rfl ?_
      refine at_does (does_val cal16 rfl rfl rfl (fun w hs => of_ref _ _ _ _ _ _ _ w)) rfl (fun _ => ?_)
      refine at_pure (pv_move rfl) rfl ?_
      refine at_pure (pv_extract rfl rfl) rfl ?_
      refine at_pure (pv_extract rfl rfl) rfl ?_
      refine at_does (does_alloc ze_29 .agg (fun _ => (.cons (.cons (.cons (.cons (.cons (.cons (.cons (.cons (.cons (.cons (.cons (.cons (.cons .nil))))))))))))))) rfl (fun g21 => ?_)
      refine at_turns (by exact turns_store sz_29 rfl rfl .agg rfl rfl (.s (.s (.s (.s (.s (.s (.s (.s (.s (.s (.s (.s (.s .z))))))))))))) (.rep (.rep (.rep (.rep (.rep .done))))) (.s (.s (.s (.s (.s (.s (.s (.s (.s (.s (.s (.s (.s .z)))))))))))))) ?_
      refine at_pure (pv_assign rfl) rfl ?_
      refine at_nil ?_
      refine ex_go ?_
      refine cd_seq ?_
      refine cd_draw' 15 follows ?_
      refine dr_take 0 rfl (by kernel_rfl) (by first | exact List.Sublist.refl _ | exact List.sublist_append_left _ _) (by exact pv_loads_box ag_29 rfl (.s (.s (.s (.s (.s (.s (.s (.s (.s (.s (.s (.s .z)))))))))))) (.take (.take (.take (.take (.take .done)))))) rfl ?_
      refine dr_take 1 rfl (by kernel_rfl) (by first | exact List.Sublist.refl _ | exact List.sublist_append_left _ _) (by exact pv_loads_box ag_29 rfl (.s (.s (.s (.s (.s (.s (.s (.s (.s (.s (.s (.s (.s .z))))))))))))) (.take (.take (.take (.take (.take .done)))))) rfl ?_
      refine dr_take 2 rfl (by kernel_rfl) (by first | exact List.Sublist.refl _ | exact List.sublist_append_left _ _) (pv_neqls_same sb_29 rfl rfl rfl) rfl ?_
      refine dr_take 3 rfl (by kernel_rfl) (by first | exact List.Sublist.refl _ | exact List.sublist_append_left _ _) (pv_move rfl) rfl ?_
      refine dr_take_g 4 rfl rfl rfl rfl (by kernel_rfl) (by first | exact List.Sublist.refl _ | exact List.sublist_append_left _ _) (pv_move rfl) rfl ?_
      refine dr_take_g 5 rfl rfl rfl rfl (by kernel_rfl) (by first | exact List.Sublist.refl _ | exact List.sublist_append_left _ _) (pv_move rfl) rfl ?_
      refine dr_take_g 6 rfl rfl rfl rfl (by kernel_rfl) (by first | exact List.Sublist.refl _ | exact List.sublist_append_left _ _) (pv_neq_same rfl rfl) rfl ?_
      refine dr_take 7 rfl (by kernel_rfl) (by first | exact List.Sublist.refl _ | exact List.sublist_append_left _ _) (pv_pick_f rfl rfl rfl) rfl ?_
      refine dr_take 8 rfl (by kernel_rfl) (by first | exact List.Sublist.refl _ | exact List.sublist_append_left _ _) (pv_move rfl) rfl ?_
      refine dr_take_g 9 rfl rfl rfl rfl (by kernel_rfl) (by first | exact List.Sublist.refl _ | exact List.sublist_append_left _ _) (by exact pv_loads_box ag_29 rfl (.s (.s (.s (.s (.s (.s (.s (.s (.s (.s (.s (.s (.s .z))))))))))))) (.take (.take (.take (.take (.take .done)))))) rfl ?_
      refine dr_take_g 11 rfl rfl rfl rfl (by kernel_rfl) (by first | exact List.Sublist.refl _ | exact List.sublist_append_left _ _) (by exact pv_loads_box ag_29 rfl (.s (.s (.s (.s (.s (.s (.s (.s (.s (.s (.s (.s (.s .z))))))))))))) (.take (.take (.take (.take (.take .done)))))) rfl ?_
      refine dr_one 10 (by kernel_rfl) rfl ?_
      refine at_does_g rfl rfl rfl (does_val cal17 rfl rfl rfl (fun w hs => total_any _ _ _ _ _ w)) rfl (fun _ => ?_)
      refine at_nil (dr_next (fun _ => (by first | exact List.Sublist.refl _ | exact List.sublist_append_left _ _)) ?_)
      refine dr_one 12 (by kernel_rfl) rfl ?_
      refine at_does_g rfl rfl rfl (does_val cal18 rfl rfl rfl (fun w hs => total_ref _ _ _ _ _ w)) rfl (fun _ => ?_)
      refine at_nil (dr_next (fun _ => (by first | exact List.Sublist.refl _ | exact List.sublist_append_left _ _)) ?_)
      refine dr_take_g 13 rfl rfl rfl rfl (by kernel_rfl) (by first | exact List.Sublist.refl _ | exact List.sublist_append_left _ _) (pv_neq_same rfl rfl) rfl ?_
      refine dr_take 14 rfl (by kernel_rfl) (by first | exact List.Sublist.refl _ | exact List.sublist_append_left _ _) (pv_pick_f rfl rfl rfl) rfl ?_
      refine dr_done (by kernel_rfl) ?_
      refine ex_go ?_
      refine cd_else rfl rfl ?_
      refine cd_skip ?_
      refine ex_in_normal (ex_go ?_)
      refine cd_region ?_
      refine at_pure (by first | exact pv_add_n rfl rfl (by unfold In64; omega) | exact pv_add rfl rfl) rfl ?_
      refine at_pure (pv_move rfl) rfl ?_
      refine at_nil ?_
      refine ex_round ?_
      refine cd_seq ?_
      refine cd_region ?_
      refine at_pure (pv_lss rfl rfl) rfl ?_
      refine at_nil ?_
      refine ex_go ?_
      refine cd_seq ?_
      refine cd_else rfl (by decide) ?_
      refine cd_exit ?_
      refine ex_then_exit (ex_then_exit (ex_in (ex_go ?_)))
      refine cd_seq ?_
      refine cd_draw' 5 follows ?_
      refine dr_take 0 rfl (by kernel_rfl) (by first | exact List.Sublist.refl _ | exact List.sublist_append_left _ _) (by exact pv_loads_box ag_29 rfl (.s .z) (.take (.take (.take (.take (.take .done)))))) rfl ?_
      refine dr_take 2 rfl (by kernel_rfl) (by first | exact List.Sublist.refl _ | exact List.sublist_append_left _ _) (by exact pv_loads_box ag_29 rfl (.s .z) (.take (.take (.take (.take (.take .done)))))) rfl ?_
      refine dr_one 1 (by kernel_rfl) rfl ?_
      refine at_does (does_val cal17 rfl rfl rfl (fun w hs => total_any _ _ _ _ _ w)) rfl (fun _ => ?_)
      refine at_nil (dr_next (fun _ => (by first | exact List.Sublist.refl _ | exact List.sublist_append_left _ _)) ?_)
      refine dr_one 3 (by kernel_rfl) rfl ?_
      refine at_does (does_val cal18 rfl rfl rfl (fun w hs => total_ref _ _ _ _ _ w)) rfl (fun _ => ?_)
      refine at_nil (dr_next (fun _ => (by first | exact List.Sublist.refl _ | exact List.sublist_append_left _ _)) ?_)
      refine dr_take 4 rfl (by kernel_rfl) (by first | exact List.Sublist.refl _ | exact List.sublist_append_left _ _) (pv_eql_same rfl rfl) rfl ?_
      refine dr_one 5 (by kernel_rfl) rfl ?_
      refine at_pure (pv_assign rfl) rfl ?_
      refine at_nil (dr_next (fun h => by cases h) ?_)
      refine dr_done (by kernel_rfl) ?_
      refine ex_go ?_
      refine cd_ret ?_
      exact end_ret1 rfl rfl (fun w hs => Val.mk hs)
    · skip
      refine cd_seq ?_
      refine cd_region ?_
      refine at_pure (pv_eql rfl rfl) rfl ?_
      refine at_pure (pv_assign rfl) rfl ?_
      refine at_nil ?_
      refine ex_go ?_
      refine cd_if rfl (fun hb2 => ?_) (fun hb2 => ?_)
      · skip
        refine cd_region ?_
        refine at_pure (pv_field0 fa_27_4 rfl (r := 4) rfl) rfl ?_
        refine at_pure (by exact pv_load ld_3 rfl (box_cell .z (.s (.s (.s (.s .z)))))) rfl ?_
        refine at_pure (pv_field0 fa_27_4 rfl (r := 4) rfl) rfl ?_
        refine at_turns (by exact turns_store sz_3 rfl rfl (.one rfl) rfl rfl (.s (.s (.s .z))) (.skip (.skip (.skip (.skip (.rep .done))))) (.s (.s (.s .z)))) ?_
        refine at_nil ?_
        refine ex_in_normal (ex_go ?_)
        refine cd_seq ?_
        refine cd_seq ?_
        refine cd_region ?_
        refine at_pure (by exact pv_loads_box ag_27 rfl .z (.take (.take (.take (.take (.take (.take (.take .done)))))))) rfl ?_
        refine at_pure (by exact pv_loads_box ag_27 rfl (.s (.s .z)) (.take (.take (.take (.take (.take (.take (.take .done)))))))) rfl ?_
        refine at_pure (by exact pv_loads_box ag_27 rfl (.s (.s (.s .z))) (.take (.take (.take (.take (.take (.take (.take .done)))))))) rfl ?_
        refine at_does (does_list (by rfl) (by exact (bs_30_3_0_1_2 _ _ _ _ _ _ _ _ _ _ _ _ _ _ _ _ _ _ _ _ _)) (by exact (fun _ => (.cons (.cons (.cons (.cons .nil))))))) rfl (fun g22 => ?_)
        refine at_pure (pv_len Try.underlying30 rfl) rfl ?_
        refine at_pure (pv_move rfl) rfl ?_
        refine at_nil ?_
        refine ex_go ?_
        refine cd_block ?_
        refine cd_rounds 3 ?_
        refine cd_seq ?_
        refine cd_region ?_
        refine at_pure (pv_lss rfl rfl) rfl ?_
        refine at_nil ?_
        refine ex_go ?_
        refine cd_seq ?_
        refine cd_then rfl (by decide) ?_
        refine cd_skip ?_
        refine ex_go ?_
        refine cd_seq ?_
        refine cd_block ?_
        refine cd_seq ?_
        refine cd_region ?_
        refine at_pure (pv_indexLit Try.underlying30 cz_27 rfl rfl (by decide) rfl) rfl ?_
        refine at_pure (by exact pv_loads_box ag_27 rfl (.s (.s (.s (.s .z)))) (.take (.take (.take (.take (.take (.take (.take .done)))))))) rfl ?_
        refine at_does (does_alloc ze_27 .agg (fun _ => (.cons (.cons (.cons (.cons (.cons .nil))))))) rfl (fun g23 => ?_)
        refine at_turns (by exact turns_store sz_27 rfl rfl .agg rfl rfl (.s (.s (.s (.s (.s .z))))) (.rep (.rep (.rep (.rep (.rep (.rep (.rep .done))))))) (.s (.s (.s (.s (.s .z)))))) ?_
        refine at_nil ?_
        refine ex_go ?_
        refine cd_seq ?_
        refine cd_region ?_
        refine at_pure (by exact pv_loads_box ag_27 rfl (.s (.s (.s (.s (.s .z))))) (.take (.take (.take (.take (.take (.take (.take .done)))))))) rfl ?_
        refine at_does (does_val cal15 rfl rfl rfl (fun w hs => of_any _ _ _ _ _ _ _ w)) rfl (fun _ => ?_)
        refine at_pure (pv_move rfl) rfl ?_
        refine at_pure (pv_extract rfl rfl) rfl ?_
        refine at_pure (pv_extract rfl rfl) rfl ?_
        refine at_does (does_alloc ze_29 .agg (fun _ => (.cons (.cons (.cons (.cons (.cons (.cons .nil)))))))) rfl (fun g24 => ?_)
        refine at_turns (by exact turns_store sz_29 rfl rfl .agg rfl rfl (.s (.s (.s (.s (.s (.s .z)))))) (.rep (.rep (.rep (.rep (.rep .done))))) (.s (.s (.s (.s (.s (.s .z))))))) ?_
        refine at_pure (pv_assign rfl) rfl ?_
        refine at_nil ?_
        refine ex_go ?_
        refine cd_seq ?_
        refine cd_region ?_
        refine at_pure (by exact pv_loads_box ag_27 rfl (.s (.s (.s (.s (.s .z))))) (.take (.take (.take (.take (.take (.take (.take .done)))))))) rfl ?_
        refine at_does (does_val cal16 rfl rfl rfl (fun w hs => of_ref _ _ _ _ _ _ _ w)) rfl (fun _ => ?_)
        refine at_pure (pv_move rfl) rfl ?_
        refine at_pure (pv_extract rfl rfl) rfl ?_
        refine at_pure (pv_extract rfl rfl) rfl ?_
        refine at_does (does_alloc ze_29 .agg (fun _ => (.cons (.cons (.cons (.cons (.cons (.cons (.cons .nil))))))))) rfl (fun g25 => ?_)
        refine at_turns (by exact turns_store sz_29 rfl rfl .agg rfl rfl (.s (.s (.s (.s (.s (.s (.s .z))))))) (.rep (.rep (.rep (.rep (.rep .done))))) (.s (.s (.s (.s (.s (.s (.s .z)))))))) ?_
        refine at_pure (pv_assign rfl) rfl ?_
        refine at_nil ?_
        refine ex_go ?_
        refine cd_seq ?_
        refine cd_draw' 15 follows ?_
        refine dr_take 0 rfl (by kernel_rfl) (by first | exact List.Sublist.refl _ | exact List.sublist_append_left _ _) (by exact pv_loads_box ag_29 rfl (.s (.s (.s (.s (.s (.s .z)))))) (.take (.take (.take (.take (.take .done)))))) rfl ?_
        refine dr_take 1 rfl (by kernel_rfl) (by first | exact List.Sublist.refl _ | exact List.sublist_append_left _ _) (by exact pv_loads_box ag_29 rfl (.s (.s (.s (.s (.s (.s (.s .z))))))) (.take (.take (.take (.take (.take .done)))))) rfl ?_
        refine dr_take 2 rfl (by kernel_rfl) (by first | exact List.Sublist.refl _ | exact List.sublist_append_left _ _) (pv_neqls_same sb_29 rfl rfl rfl) rfl ?_
        refine dr_take 3 rfl (by kernel_rfl) (by first | exact List.Sublist.refl _ | exact List.sublist_append_left _ _) (pv_move rfl) rfl ?_
        refine dr_take_g 4 rfl rfl rfl rfl (by kernel_rfl) (by first | exact List.Sublist.refl _ | exact List.sublist_append_left _ _) (pv_move rfl) rfl ?_
        refine dr_take_g 5 rfl rfl rfl rfl (by kernel_rfl) (by first | exact List.Sublist.refl _ | exact List.sublist_append_left _ _) (pv_move rfl) rfl ?_
        refine dr_take_g 6 rfl rfl rfl rfl (by kernel_rfl) (by first | exact List.Sublist.refl _ | exact List.sublist_append_left _ _) (pv_neq_same rfl rfl) rfl ?_
        refine dr_take 7 rfl (by kernel_rfl) (by first | exact List.Sublist.refl _ | exact List.sublist_append_left _ _) (pv_pick_f rfl rfl rfl) rfl ?_
        refine dr_take 8 rfl (by kernel_rfl) (by first | exact List.Sublist.refl _ | exact List.sublist_append_left _ _) (pv_move rfl) rfl ?_
        refine dr_take_g 9 rfl rfl rfl rfl (by kernel_rfl) (by first | exact List.Sublist.refl _ | exact List.sublist_append_left _ _) (by exact pv_loads_box ag_29 rfl (.s (.s (.s (.s (.s (.s (.s .z))))))) (.take (.take (.take (.take (.take .done)))))) rfl ?_
        refine dr_take_g 11 rfl rfl rfl rfl (by kernel_rfl) (by first | exact List.Sublist.refl _ | exact List.sublist_append_left _ _) (by exact pv_loads_box ag_29 rfl (.s (.s (.s (.s (.s (.s (.s .z))))))) (.take (.take (.take (.take (.take .done)))))) rfl ?_
        refine dr_one 10 (by kernel_rfl) rfl ?_
        refine at_does_g rfl rfl rfl (does_val cal17 rfl rfl rfl (fun w hs => total_any _ _ _ _ _ w)) rfl (fun _ => ?_)
        refine at_nil (dr_next (fun _ => (by first | exact List.Sublist.refl _ | exact List.sublist_append_left _ _)) ?_)
        refine dr_one 12 (by kernel_rfl) rfl ?_
        refine at_does_g rfl rfl rfl (does_val cal18 rfl rfl rfl (fun w hs => total_ref _ _ _ _ _ w)) rfl (fun _ => ?_)
        refine at_nil (dr_next (fun _ => (by first | exact List.Sublist.refl _ | exact List.sublist_append_left _ _)) ?_)
        refine dr_take_g 13 rfl rfl rfl rfl (by kernel_rfl) (by first | exact List.Sublist.refl _ | exact List.sublist_append_left _ _) (pv_neq_same rfl rfl) rfl ?_
        refine dr_take 14 rfl (by kernel_rfl) (by first | exact List.Sublist.refl _ | exact List.sublist_append_left _ _) (pv_pick_f rfl rfl rfl) rfl ?_
        refine dr_done (by kernel_rfl) ?_
        refine ex_go ?_
        refine cd_else rfl rfl ?_
        refine cd_skip ?_
        refine ex_in_normal (ex_go ?_)
        refine cd_region ?_
        refine at_pure (by first | exact pv_add_n rfl rfl (by unfold In64; omega) | exact pv_add rfl rfl) rfl ?_
        refine at_pure (pv_move rfl) rfl ?_
        refine at_nil ?_
        refine ex_round ?_
        refine cd_seq ?_
        refine cd_region ?_
        refine at_pure (pv_lss rfl rfl) rfl ?_
        refine at_nil ?_
        refine ex_go ?_
        refine cd_seq ?_
        refine cd_then rfl (by decide) ?_
        refine cd_skip ?_
        refine ex_go ?_
        refine cd_seq ?_
        refine cd_block ?_
        refine cd_seq ?_
        refine cd_region ?_
        refine at_pure (pv_indexLit Try.underlying30 cz_27 rfl rfl (by decide) rfl) rfl ?_
        refine at_pure (by exact pv_loads_box ag_27 rfl (.s (.s (.s (.s .z)))) (.skip (.skip (.skip (.skip (.skip (.skip (.skip (.take (.take (.take (.take (.take (.take (.take .done))))))))))))))) rfl ?_
        refine at_does (does_alloc ze_27 .agg (fun _ => (.cons (.cons (.cons (.cons (.cons (.cons (.cons (.cons .nil)))))))))) rfl (fun g26 => ?_)
        refine at_turns (by exact turns_store sz_27 rfl rfl .agg rfl rfl (.s (.s (.s (.s (.s (.s (.s (.s .z)))))))) (.rep (.rep (.rep (.rep (.rep (.rep (.rep .done))))))) (.s (.s (.s (.s (.s (.s (.s (.s .z))))))))) ?_
        refine at_nil ?_
        refine ex_go ?_
        refine cd_seq ?_
        refine cd_region ?_
        refine at_pure (by exact pv_loads_box ag_27 rfl (.s (.s (.s (.s (.s (.s (.s (.s .z)))))))) (.take (.take (.take (.take (.take (.take (.take .done)))))))) rfl ?_
        refine at_does (does_val cal15 rfl rfl rfl (fun w hs => of_any _ _ _ _ _ _ _ w)) rfl (fun _ => ?_)
        refine at_pure (pv_move rfl) rfl ?_
        refine at_pure (pv_extract rfl rfl) rfl ?_
        refine at_pure (pv_extract rfl rfl) rfl ?_
        refine at_does (does_alloc ze_29 .agg (fun _ => (.cons (.cons (.cons (.cons (.cons (.cons (.cons (.cons (.cons .nil))))))))))) rfl (fun g27 => ?_)
        refine at_turns (by exact turns_store sz_29 rfl rfl .agg rfl rfl (.s (.s (.s (.s (.s (.s (.s (.s (.s .z))))))))) (.rep (.rep (.rep (.rep (.rep .done))))) (.s (.s (.s (.s (.s (.s (.s (.s (.s .z)))))))))) ?_
        refine at_pure (pv_assign rfl) rfl ?_
        refine at_nil ?_
        refine ex_go ?_
        refine cd_seq ?_
        refine cd_region ?_
        refine at_pure (by exact pv_loads_box ag_27 rfl (.s (.s (.s (.s (.s (.s (.s (.s .z)))))))) (.take (.take (.take (.take (.take (.take (.take .done)))))))) rfl ?_
        refine at_does (does_val cal16 rfl rfl rfl (fun w hs => of_ref _ _ _ _ _ _ _ w)) rfl (fun _ => ?_)
        refine at_pure (pv_move rfl) rfl ?_
        refine at_pure (pv_extract rfl rfl) rfl ?_
        refine at_pure (pv_extract rfl rfl) rfl ?_
        refine at_does (does_alloc ze_29 .agg (fun _ => (.cons (.cons (.cons (.cons (.cons (.cons (.cons (.cons (.cons (.cons .nil)))))))))))) rfl (fun g28 => ?_)
        refine at_turns (by exact turns_store sz_29 rfl rfl .agg rfl rfl (.s (.s (.s (.s (.s (.s (.s (.s (.s (.s .z)))))))))) (.rep (.rep (.rep (.rep (.rep .done))))) (.s (.s (.s (.s (.s (.s (.s (.s (.s (.s .z))))))))))) ?_
        refine at_pure (pv_assign rfl) rfl ?_
        refine at_nil ?_
        refine ex_go ?_
        refine cd_seq ?_
        refine cd_draw' 15 follows ?_
        refine dr_take 0 rfl (by kernel_rfl) (by first | exact List.Sublist.refl _ | exact List.sublist_append_left _ _) (by exact pv_loads_box ag_29 rfl (.s (.s (.s (.s (.s (.s (.s (.s (.s .z))))))))) (.take (.take (.take (.take (.take .done)))))) rfl ?_
        refine dr_take 1 rfl (by kernel_rfl) (by first | exact List.Sublist.refl _ | exact List.sublist_append_left _ _) (by exact pv_loads_box ag_29 rfl (.s (.s (.s (.s (.s (.s (.s (.s (.s (.s .z)))))))))) (.take (.take (.take (.take (.take .done)))))) rfl ?_
        refine dr_take 2 rfl (by kernel_rfl) (by first | exact List.Sublist.refl _ | exact List.sublist_append_left _ _) (pv_neqls_same sb_29 rfl rfl rfl) rfl ?_
        refine dr_take 3 rfl (by kernel_rfl) (by first | exact List.Sublist.refl _ | exact List.sublist_append_left _ _) (pv_move rfl) rfl ?_
        refine dr_take_g 4 rfl rfl rfl rfl (by kernel_rfl) (by first | exact List.Sublist.refl _ | exact List.sublist_append_left _ _) (pv_move rfl) rfl ?_
        refine dr_take_g 5 rfl rfl rfl rfl (by kernel_rfl) (by first | exact List.Sublist.refl _ | exact List.sublist_append_left _ _) (pv_move rfl) rfl ?_
        refine dr_take_g 6 rfl rfl rfl rfl (by kernel_rfl) (by first | exact List.Sublist.refl _ | exact List.sublist_append_left _ _) (pv_neq_same rfl rfl) rfl ?_
        refine dr_take 7 rfl (by kernel_rfl) (by first | exact List.Sublist.refl _ | exact List.sublist_append_left _ _) (pv_pick_f rfl rfl rfl) rfl ?_
        refine dr_take 8 rfl (by kernel_rfl) (by first | exact List.Sublist.refl _ | exact List.sublist_append_left _ _) (pv_move rfl) rfl ?_
        refine dr_take_g 9 rfl rfl rfl rfl (by kernel_rfl) (by first | exact List.Sublist.refl _ | exact List.sublist_append_left _ _) (by exact pv_loads_box ag_29 rfl (.s (.s (.s (.s (.s (.s (.s (.s (.s (.s .z)))))))))) (.take (.take (.take (.take (.take .done)))))) rfl ?_
        refine dr_take_g 11 rfl rfl rfl rfl (by kernel_rfl) (by first | exact List.Sublist.refl _ | exact List.sublist_append_left _ _) (by exact pv_loads_box ag_29 rfl (.s (.s (.s (.s (.s (.s (.s (.s (.s (.s .z)))))))))) (.take (.take (.take (.take (.take .done)))))) rfl ?_
        refine dr_one 10 (by kernel_rfl) rfl ?_
        refine at_does_g rfl rfl rfl (does_val cal17 rfl rfl rfl (fun w hs => total_any _ _ _ _ _ w)) rfl (fun _ => ?_)
        refine at_nil (dr_next (fun _ => (by first | exact List.Sublist.refl _ | exact List.sublist_append_left _ _)) ?_)
        refine dr_one 12 (by kernel_rfl) rfl ?_
        refine at_does_g rfl rfl rfl (does_val cal18 rfl rfl rfl (fun w hs => total_ref _ _ _ _ _ w)) rfl (fun _ => ?_)
        refine at_nil (dr_next (fun _ => (by first | exact List.Sublist.refl _ | exact List.sublist_append_left _ _)) ?_)
        refine dr_take_g 13 rfl rfl rfl rfl (by kernel_rfl) (by first | exact List.Sublist.refl _ | exact List.sublist_append_left _ _) (pv_neq_same rfl rfl) rfl ?_
        refine dr_take 14 rfl (by kernel_rfl) (by first | exact List.Sublist.refl _ | exact List.sublist_append_left _ _) (pv_pick_f rfl rfl rfl) rfl ?_
        refine dr_done (by kernel_rfl) ?_
        refine ex_go ?_
        refine cd_else rfl rfl ?_
        refine cd_skip ?_
        refine ex_in_normal (ex_go ?_)
        refine cd_region ?_
        refine at_pure (by first | exact pv_add_n rfl rfl (by unfold In64; omega) | exact pv_add rfl rfl) rfl ?_
        refine at_pure (pv_move rfl) rfl ?_
        refine at_nil ?_
        refine ex_round ?_
        refine cd_seq ?_
        refine cd_region ?_
        refine at_pure (pv_lss rfl rfl) rfl ?_
        refine at_nil ?_
        refine ex_go ?_
        refine cd_seq ?_
        refine cd_then rfl (by decide) ?_
        refine cd_skip ?_
        refine ex_go ?_
        refine cd_seq ?_
        refine cd_block ?_
        refine cd_seq ?_
        refine cd_region ?_
        refine at_pure (pv_indexLit Try.underlying30 cz_27 rfl rfl (by decide) rfl) rfl ?_
        refine at_pure (by exact pv_loads_box ag_27 rfl (.s (.s (.s (.s .z)))) (.skip (.skip (.skip (.skip (.skip (.skip (.skip (.skip (.skip (.skip (.skip (.skip (.skip (.skip (.take (.take (.take (.take (.take (.take (.take .done)))))))))))))))))))))) rfl ?_
        refine at_does (does_alloc ze_27 .agg (fun _ => (.cons (.cons (.cons (.cons (.cons (.cons (.cons (.cons (.cons (.cons (.cons .nil))))))))))))) rfl (fun g29 => ?_)
        refine at_turns (by exact turns_store sz_27 rfl rfl .agg rfl rfl (.s (.s (.s (.s (.s (.s (.s (.s (.s (.s (.s .z))))))))))) (.rep (.rep (.rep (.rep (.rep (.rep (.rep .done))))))) (.s (.s (.s (.s (.s (.s (.s (.s (.s (.s (.s .z)))))))))))) ?_
        refine at_nil ?_
        refine ex_go ?_
        refine cd_seq ?_
        refine cd_region ?_
        refine at_pure (by exact pv_loads_box ag_27 rfl (.s (.s (.s (.s (.s (.s (.s (.s (.s (.s (.s .z))))))))))) (.take (.take (.take (.take (.take (.take (.take .done)))))))) rfl ?_
        refine at_does (does_val cal15 rfl rfl rfl (fun w hs => of_any _ _ _ _ _ _ _ w)) rfl (fun _ => ?_)
        refine at_pure (pv_move rfl) rfl ?_
        refine at_pure (pv_extract rfl rfl) rfl ?_
        refine at_pure (pv_extract rfl rfl) rfl ?_
        refine at_does (does_alloc ze_29 .agg (fun _ => (.cons (.cons (.cons (.cons (.cons (.cons (.cons (.cons (.cons (.cons (.cons (.cons .nil)))))))))))))) rfl (fun g30 => ?_)
        refine at_turns (by exact turns_store sz_29 rfl rfl .agg rfl rfl (.s (.s (.s (.s (.s (.s (.s (.s (.s (.s (.s (.s .z)))))))))))) (.rep (.rep (.rep (.rep (.rep .done))))) (.s (.s (.s (.s (.s (.s (.s (.s (.s (.s (.s (.s .z))))))))))))) ?_
        refine at_pure (pv_assign rfl) rfl ?_
        refine at_nil ?_
        refine ex_go ?_
        refine cd_seq ?_
        refine cd_region ?_
        refine at_pure (by exact pv_loads_box ag_27 rfl (.s (.s (.s (.s (.s (.s (.s (.s (.s (.s (.s .z))))))))))) (.take (.take (.take (.take (.take (.take (.take .done)))))))) rfl ?_
        refine at_does (does_val cal16 rfl rfl rfl (fun w hs => of_ref _ _ _ _ _ _ _ w)) rfl (fun _ => ?_)
        refine at_pure (pv_move rfl) rfl ?_
        refine at_pure (pv_extract rfl rfl) rfl ?_
        refine at_pure (pv_extract rfl rfl) rfl ?_
        refine at_does (does_alloc ze_29 .agg (fun _ => (.cons (.cons (.cons (.cons (.cons (.cons (.cons (.cons (.cons (.cons (.cons (.cons (.cons .nil))))))))))))))) rfl (fun g31 => ?_)
        refine at_turns (by exact turns_store sz_29 rfl rfl .agg rfl rfl (.s (.s (.s (.s (.s (.s (.s (.s (.s (.s (.s (.s (.s .z))))))))))))) (.rep (.rep (.rep (.rep (.rep .done))))) (.s (.s (.s (.s (.s (.s (.s (.s (.s (.s (.s (.s (.s .z)))))))))))))) ?_
        refine at_pure (pv_assign rfl) rfl ?_
        refine at_nil ?_
        refine ex_go ?_
        refine cd_seq ?_
        refine cd_draw' 15 follows ?_
        refine dr_take 0 rfl (by kernel_rfl) (by first | exact List.Sublist.refl _ | exact List.sublist_append_left _ _) (by exact pv_loads_box ag_29 rfl (.s (.s (.s (.s (.s (.s (.s (.s (.s (.s (.s (.s .z)))))))))))) (.take (.take (.take (.take (.take .done)))))) rfl ?_
        refine dr_take 1 rfl (by kernel_rfl) (by first | exact List.Sublist.refl _ | exact List.sublist_append_left _ _) (by exact pv_loads_box ag_29 rfl (.s (.s (.s (.s (.s (.s (.s (.s (.s (.s (.s (.s (.s .z))))))))))))) (.take (.take (.take (.take (.take .done)))))) rfl ?_
        refine dr_take 2 rfl (by kernel_rfl) (by first | exact List.Sublist.refl _ | exact List.sublist_append_left _ _) (pv_neqls_same sb_29 rfl rfl rfl) rfl ?_
        refine dr_take 3 rfl (by kernel_rfl) (by first | exact List.Sublist.refl _ | exact List.sublist_append_left _ _) (pv_move rfl) rfl ?_
        refine dr_take_g 4 rfl rfl rfl rfl (by kernel_rfl) (by first | exact List.Sublist.refl _ | exact List.sublist_append_left _ _) (pv_move rfl) rfl ?_
        refine dr_take_g 5 rfl rfl rfl rfl (by kernel_rfl) (by first | exact List.Sublist.refl _ | exact List.sublist_append_left _ _) (pv_move rfl) rfl ?_
        refine dr_take_g 6 rfl rfl rfl rfl (by kernel_rfl) (by first | exact List.Sublist.refl _ | exact List.sublist_append_left _ _) (pv_neq_same rfl rfl) rfl ?_
        refine dr_take 7 rfl (by kernel_rfl) (by first | exact List.Sublist.refl _ | exact List.sublist_append_left _ _) (pv_pick_f rfl rfl rfl) rfl ?_
        refine dr_take 8 rfl (by kernel_rfl) (by first | exact List.Sublist.refl _ | exact List.sublist_append_left _ _) (pv_move rfl) rfl ?_
        refine dr_take_g 9 rfl rfl rfl rfl (by kernel_rfl) (by first | exact List.Sublist.refl _ | exact List.sublist_append_left _ _) (by exact pv_loads_box ag_29 rfl (.s (.s (.s (.s (.s (.s (.s (.s (.s (.s (.s (.s (.s .z))))))))))))) (.take (.take (.take (.take (.take .done)))))) rfl ?_
        refine dr_take_g 11 rfl rfl rfl rfl (by kernel_rfl) (by first | exact List.Sublist.refl _ | exact List.sublist_append_left _ _) (by exact pv_loads_box ag_29 rfl (.s (.s (.s (.s (.s (.s (.s (.s (.s (.s (.s (.s (.s .z))))))))))))) (.take (.take (.take (.take (.take .done)))))) rfl ?_
        refine dr_one 10 (by kernel_rfl) rfl ?_
        refine at_does_g rfl rfl rfl (does_val cal17 rfl rfl rfl (fun w hs => total_any _ _ _ _ _ w)) rfl (fun _ => ?_)
        refine at_nil (dr_next (fun _ => (by first | exact List.Sublist.refl _ | exact List.sublist_append_left _ _)) ?_)
        refine dr_one 12 (by kernel_rfl) rfl ?_
        refine at_does_g rfl rfl rfl (does_val cal18 rfl rfl rfl (fun w hs => total_ref _ _ _ _ _ w)) rfl (fun _ => ?_)
        refine at_nil (dr_next (fun _ => (by first | exact List.Sublist.refl _ | exact List.sublist_append_left _ _)) ?_)
        refine dr_take_g 13 rfl rfl rfl rfl (by kernel_rfl) (by first | exact List.Sublist.refl _ | exact List.sublist_append_left _ _) (pv_neq_same rfl rfl) rfl ?_
        refine dr_take 14 rfl (by kernel_rfl) (by first | exact List.Sublist.refl _ | exact List.sublist_append_left _ _) (pv_pick_f rfl rfl rfl) rfl ?_
        refine dr_done (by kernel_rfl) ?_
        refine ex_go ?_
        refine cd_else rfl rfl ?_
        refine cd_skip ?_
        refine ex_in_normal (ex_go ?_)
        refine cd_region ?_
        refine at_pure (by first | exact pv_add_n rfl rfl (by unfold In64; omega) | exact pv_add rfl rfl) rfl ?_
        refine at_pure (pv_move rfl) rfl ?_
        refine at_nil ?_
        refine ex_round ?_
        refine cd_seq ?_
        refine cd_region ?_
        refine at_pure (pv_lss rfl rfl) rfl ?_
        refine at_nil ?_
        refine ex_go ?_
        refine cd_seq ?_
        refine cd_else rfl (by decide) ?_
        refine cd_exit ?_
        refine ex_then_exit (ex_then_exit (ex_in (ex_go ?_)))
        refine cd_seq ?_
        refine cd_draw' 5 follows ?_
        refine dr_take 0 rfl (by kernel_rfl) (by first | exact List.Sublist.refl _ | exact List.sublist_append_left _ _) (by exact pv_loads_box ag_29 rfl (.s .z) (.take (.take (.take (.take (.take .done)))))) rfl ?_
        refine dr_take 2 rfl (by kernel_rfl) (by first | exact List.Sublist.refl _ | exact List.sublist_append_left _ _) (by exact pv_loads_box ag_29 rfl (.s .z) (.take (.take (.take (.take (.take .done)))))) rfl ?_
        refine dr_one 1 (by kernel_rfl) rfl ?_
        refine at_does (does_val cal17 rfl rfl rfl (fun w hs => total_any _ _ _ _ _ w)) rfl (fun _ => ?_)
        refine at_nil (dr_next (fun _ => (by first | exact List.Sublist.refl _ | exact List.sublist_append_left _ _)) ?_)
        refine dr_one 3 (by kernel_rfl) rfl ?_
        refine at_does (does_val cal18 rfl rfl rfl (fun w hs => total_ref _ _ _ _ _ w)) rfl (fun _ => ?_)
        refine at_nil (dr_next (fun _ => (by first | exact List.Sublist.refl _ | exact List.sublist_append_left _ _)) ?_)
        refine dr_take 4 rfl (by kernel_rfl) (by first | exact List.Sublist.refl _ | exact List.sublist_append_left _ _) (pv_eql_same rfl rfl) rfl ?_
        refine dr_one 5 (by kernel_rfl) rfl ?_
        refine at_pure (pv_assign rfl) rfl ?_
        refine at_nil (dr_next (fun h => by cases h) ?_)
        refine dr_done (by kernel_rfl) ?_
        refine ex_go ?_
        refine cd_ret ?_
        exact end_ret1 rfl rfl (fun w hs => Val.mk hs)
      · skip
        refine cd_seq ?_
        refine cd_region ?_
        refine at_pure (pv_eql rfl rfl) rfl ?_
        refine at_pure (pv_assign rfl) rfl ?_
        refine at_nil ?_
        refine ex_go ?_
        refine cd_if rfl (fun hb3 => ?_) (fun hb3 => ?_)
        · skip
          refine cd_region ?_
          refine at_pure (pv_field0 fa_27_5 rfl (r := 5) rfl) rfl ?_
          refine at_pure (by exact pv_load ld_3 rfl (box_cell .z (.s (.s (.s (.s (.s .z))))))) rfl ?_
          refine at_pure (pv_field0 fa_27_5 rfl (r := 5) rfl) rfl ?_
          refine at_turns (by exact turns_store sz_3 rfl rfl (.one rfl) rfl rfl (.s (.s (.s .z))) (.skip (.skip (.skip (.skip (.skip (.rep .done)))))) (.s (.s (.s .z)))) ?_
          refine at_nil ?_
          refine ex_in_normal (ex_go ?_)
          refine cd_seq ?_
          refine cd_seq ?_
          refine cd_region ?_
          refine at_pure (by exact pv_loads_box ag_27 rfl .z (.take (.take (.take (.take (.take (.take (.take .done)))))))) rfl ?_
          refine at_pure (by exact pv_loads_box ag_27 rfl (.s (.s .z)) (.take (.take (.take (.take (.take (.take (.take .done)))))))) rfl ?_
          refine at_pure (by exact pv_loads_box ag_27 rfl (.s (.s (.s .z))) (.take (.take (.take (.take (.take (.take (.take .done)))))))) rfl ?_
          refine at_does (does_list (by rfl) (by exact (bs_30_3_0_1_2 _ _ _ _ _ _ _ _ _ _ _ _ _ _ _ _ _ _ _ _ _)) (by exact (fun _ => (.cons (.cons (.cons (.cons .nil))))))) rfl (fun g32 => ?_)
          refine at_pure (pv_len Try.underlying30 rfl) rfl ?_
          refine at_pure (pv_move rfl) rfl ?_
          refine at_nil ?_
          refine ex_go ?_
          refine cd_block ?_
          refine cd_rounds 3 ?_
          refine cd_seq ?_
          refine cd_region ?_
          refine at_pure (pv_lss rfl rfl) rfl ?_
          refine at_nil ?_
          refine ex_go ?_
          refine cd_seq ?_
          refine cd_then rfl (by decide) ?_
          refine cd_skip ?_
          refine ex_go ?_
          refine cd_seq ?_
          refine cd_block ?_
          refine cd_seq ?_
          refine cd_region ?_
          refine at_pure (pv_indexLit Try.underlying30 cz_27 rfl rfl (by decide) rfl) rfl ?_
          refine at_pure (by exact pv_loads_box ag_27 rfl (.s (.s (.s (.s .z)))) (.take (.take (.take (.take (.take (.take (.take .done)))))))) rfl ?_
          refine at_does (does_alloc ze_27 .agg (fun _ => (.cons (.cons (.cons (.cons (.cons .nil))))))) rfl (fun g33 => ?_)
          refine at_turns (by exact turns_store sz_27 rfl rfl .agg rfl rfl (.s (.s (.s (.s (.s .z))))) (.rep (.rep (.rep (.rep (.rep (.rep (.rep .done))))))) (.s (.s (.s (.s (.s .z)))))) ?_
          refine at_nil ?_
          refine ex_go ?_
          refine cd_seq ?_
          refine cd_region ?_
          refine at_pure (by exact pv_loads_box ag_27 rfl (.s (.s (.s (.s (.s .z))))) (.take (.take (.take (.take (.take (.take (.take .done)))))))) rfl ?_
          refine at_does (does_val cal15 rfl rfl rfl (fun w hs => of_any _ _ _ _ _ _ _ w)) rfl (fun _ => ?_)
          refine at_pure (pv_move rfl) rfl ?_
          refine at_pure (pv_extract rfl rfl) rfl ?_
          refine at_pure (pv_extract rfl rfl) rfl ?_
          refine at_does (does_alloc ze_29 .agg (fun _ => (.cons (.cons (.cons (.cons (.cons (.cons .nil)))))))) rfl (fun g34 => ?_)
          refine at_turns (by exact turns_store sz_29 rfl rfl .agg rfl rfl (.s (.s (.s (.s (.s (.s .z)))))) (.rep (.rep (.rep (.rep (.rep .done))))) (.s (.s (.s (.s (.s (.s .z))))))) ?_
          refine at_pure (pv_assign rfl) rfl ?_
          refine at_nil ?_
          refine ex_go ?_
          refine cd_seq ?_
          refine cd_region ?_
          refine at_pure (by exact pv_loads_box ag_27 rfl (.s (.s (.s (.s (.s .z))))) (.take (.take (.take (.take (.take (.take (.take .done)))))))) rfl ?_
          refine at_does (does_val cal16 rfl rfl rfl (fun w hs => of_ref _ _ _ _ _ _ _ w)) rfl (fun _ => ?_)
          refine at_pure (pv_move rfl) rfl ?_
          refine at_pure (pv_extract rfl rfl) rfl ?_
          refine at_pure (pv_extract rfl rfl) rfl ?_
          refine at_does (does_alloc ze_29 .agg (fun _ => (.cons (.cons (.cons (.cons (.cons (.cons (.cons .nil))))))))) rfl (fun g35 => ?_)
          refine at_turns (by exact turns_store sz_29 rfl rfl .agg rfl rfl (.s (.s (.s (.s (.s (.s (.s .z))))))) (.rep (.rep (.rep (.rep (.rep .done))))) (.s (.s (.s (.s (.s (.s (.s .z)))))))) ?_
          refine at_pure (pv_assign rfl) rfl ?_
          refine at_nil ?_
          refine ex_go ?_
          refine cd_seq ?_
          refine cd_draw' 15 follows ?_
          refine dr_take 0 rfl (by kernel_rfl) (by first | exact List.Sublist.refl _ | exact List.sublist_append_left _ _) (by exact pv_loads_box ag_29 rfl (.s (.s (.s (.s (.s (.s .z)))))) (.take (.take (.take (.take (.take .done)))))) rfl ?_
          refine dr_take 1 rfl (by kernel_rfl) (by first | exact List.Sublist.refl _ | exact List.sublist_append_left _ _) (by exact pv_loads_box ag_29 rfl (.s (.s (.s (.s (.s (.s (.s .z))))))) (.take (.take (.take (.take (.take .done)))))) rfl ?_
          refine dr_take 2 rfl (by kernel_rfl) (by first | exact List.Sublist.refl _ | exact List.sublist_append_left _ _) (pv_neqls_same sb_29 rfl rfl rfl) rfl ?_
          refine dr_take 3 rfl (by kernel_rfl) (by first | exact List.Sublist.refl _ | exact List.sublist_append_left _ _) (pv_move rfl) rfl ?_
          refine dr_take_g 4 rfl rfl rfl rfl (by kernel_rfl) (by first | exact List.Sublist.refl _ | exact List.sublist_append_left _ _) (pv_move rfl) rfl ?_
          refine dr_take_g 5 rfl rfl rfl rfl (by kernel_rfl) (by first | exact List.Sublist.refl _ | exact List.sublist_append_left _ _) (pv_move rfl) rfl ?_
          refine dr_take_g 6 rfl rfl rfl rfl (by kernel_rfl) (by first | exact List.Sublist.refl _ | exact List.sublist_append_left _ _) (pv_neq_same rfl rfl) rfl ?_
          refine dr_take 7 rfl (by kernel_rfl) (by first | exact List.Sublist.refl _ | exact List.sublist_append_left _ _) (pv_pick_f rfl rfl rfl) rfl ?_
          refine dr_take 8 rfl (by kernel_rfl) (by first | exact List.Sublist.refl _ | exact List.sublist_append_left _ _) (pv_move rfl) rfl ?_
          refine dr_take_g 9 rfl rfl rfl rfl (by kernel_rfl) (by first | exact List.Sublist.refl _ | exact List.sublist_append_left _ _) (by exact pv_loads_box ag_29 rfl (.s (.s (.s (.s (.s (.s (.s .z))))))) (.take (.take (.take (.take (.take .done)))))) rfl ?_
          refine dr_take_g 11 rfl rfl rfl rfl (by kernel_rfl) (by first | exact List.Sublist.refl _ | exact List.sublist_append_left _ _) (by exact pv_loads_box ag_29 rfl (.s (.s (.s (.s (.s (.s (.s .z))))))) (.take (.take (.take (.take (.take .done)))))) rfl ?_
          refine dr_one 10 (by kernel_rfl) rfl ?_
          refine at_does_g rfl rfl rfl (does_val cal17 rfl rfl rfl (fun w hs => total_any _ _ _ _ _ w)) rfl (fun _ => ?_)
          refine at_nil (dr_next (fun _ => (by first | exact List.Sublist.refl _ | exact List.sublist_append_left _ _)) ?_)
          refine dr_one 12 (by kernel_rfl) rfl ?_
          refine at_does_g rfl rfl rfl (does_val cal18 rfl rfl rfl (fun w hs => total_ref _ _ _ _ _ w)) rfl (fun _ => ?_)
          refine at_nil (dr_next (fun _ => (by first | exact List.Sublist.refl _ | exact List.sublist_append_left _ _)) ?_)
          refine dr_take_g 13 rfl rfl rfl rfl (by kernel_rfl) (by first | exact List.Sublist.refl _ | exact List.sublist_append_left _ _) (pv_neq_same rfl rfl) rfl ?_
          refine dr_take 14 rfl (by kernel_rfl) (by first | exact List.Sublist.refl _ | exact List.sublist_append_left _ _) (pv_pick_f rfl rfl rfl) rfl ?_
          refine dr_done (by kernel_rfl) ?_
          refine ex_go ?_
          refine cd_else rfl rfl ?_
          refine cd_skip ?_
          refine ex_in_normal (ex_go ?_)
          refine cd_region ?_
          refine at_pure (by first | exact pv_add_n rfl rfl (by unfold In64; omega) | exact pv_add rfl rfl) rfl ?_
          refine at_pure (pv_move rfl) rfl ?_
          refine at_nil ?_
          refine ex_round ?_
          refine cd_seq ?_
          refine cd_region ?_
          refine at_pure (pv_lss rfl rfl) rfl ?_
          refine at_nil ?_
          refine ex_go ?_
          refine cd_seq ?_
          refine cd_then rfl (by decide) ?_
          refine cd_skip ?_
          refine ex_go ?_
          refine cd_seq ?_
          refine cd_block ?_
          refine cd_seq ?_
          refine cd_region ?_
          refine at_pure (pv_indexLit Try.underlying30 cz_27 rfl rfl (by decide) rfl) rfl ?_
          refine at_pure (by exact pv_loads_box ag_27 rfl (.s (.s (.s (.s .z)))) (.skip (.skip (.skip (.skip (.skip (.skip (.skip (.take (.take (.take (.take (.take (.take (.take .done))))))))))))))) rfl ?_
          refine at_does (does_alloc ze_27 .agg (fun _ => (.cons (.cons (.cons (.cons (.cons (.cons (.cons (.cons .nil)))))))))) rfl (fun g36 => ?_)
          refine at_turns (by exact turns_store sz_27 rfl rfl .agg rfl rfl (.s (.s (.s (.s (.s (.s (.s (.s .z)))))))) (.rep (.rep (.rep (.rep (.rep (.rep (.rep .done))))))) (.s (.s (.s (.s (.s (.s (.s (.s .z))))))))) ?_
          refine at_nil ?_
          refine ex_go ?_
          refine cd_seq ?_
          refine cd_region ?_
          refine at_pure (by exact pv_loads_box ag_27 rfl (.s (.s (.s (.s (.s (.s (.s (.s .z)))))))) (.take (.take (.take (.take (.take (.take (.take .done)))))))) rfl ?_
          refine at_does (does_val cal15 rfl rfl rfl (fun w hs => of_any _ _ _ _ _ _ _ w)) rfl (fun _ => ?_)
          refine at_pure (pv_move rfl) rfl ?_
          refine at_pure (pv_extract rfl rfl) rfl ?_
          refine at_pure (pv_extract rfl rfl) rfl ?_
          refine at_does (does_alloc ze_29 .agg (fun _ => (.cons (.cons (.cons (.cons (.cons (.cons (.cons (.cons (.cons .nil))))))))))) rfl (fun g37 => ?_)
          refine at_turns (by exact turns_store sz_29 rfl rfl .agg rfl rfl (.s (.s (.s (.s (.s (.s (.s (.s (.s .z))))))))) (.rep (.rep (.rep (.rep (.rep .done))))) (.s (.s (.s (.s (.s (.s (.s (.s (.s .z)))))))))) ?_
          refine at_pure (pv_assign rfl) rfl ?_
          refine at_nil ?_
          refine ex_go ?_
          refine cd_seq ?_
          refine cd_region ?_
          refine at_pure (by exact pv_loads_box ag_27 rfl (.s (.s (.s (.s (.s (.s (.s (.s .z)))))))) (.take (.take (.take (.take (.take (.take (.take .done)))))))) rfl ?_
          refine at_does (does_val cal16 rfl rfl rfl (fun w hs => of_ref _ _ _ _ _ _ _ w)) rfl (fun _ => ?_)
          refine at_pure (pv_move rfl) rfl ?_
          refine at_pure (pv_extract rfl rfl) rfl ?_
          refine at_pure (pv_extract rfl rfl) rfl ?_
          refine at_does (does_alloc ze_29 .agg (fun _ => (.cons (.cons (.cons (.cons (.cons (.cons (.cons (.cons (.cons (.cons .nil)))))))))))) rfl (fun g38 => ?_)
          refine at_turns (by exact turns_store sz_29 rfl rfl .agg rfl rfl (.s (.s (.s (.s (.s (.s (.s (.s (.s (.s .z)))))))))) (.rep (.rep (.rep (.rep (.rep .done))))) (.s (.s (.s (.s (.s (.s (.s (.s (.s (.s .z))))))))))) ?_
          refine at_pure (pv_assign rfl) rfl ?_
          refine at_nil ?_
          refine ex_go ?_
          refine cd_seq ?_
          refine cd_draw' 15 follows ?_
          refine dr_take 0 rfl (by kernel_rfl) (by first | exact List.Sublist.refl _ | exact List.sublist_append_left _ _) (by exact pv_loads_box ag_29 rfl (.s (.s (.s (.s (.s (.s (.s (.s (.s .z))))))))) (.take (.take (.take (.take (.take .done)))))) rfl ?_
          refine dr_take 1 rfl (by kernel_rfl) (by first | exact List.Sublist.refl _ | exact List.sublist_append_left _ _) (by exact pv_loads_box ag_29 rfl (.s (.s (.s (.s (.s (.s (.s (.s (.s (.s .z)))))))))) (.take (.take (.take (.take (.take .done)))))) rfl ?_
          refine dr_take 2 rfl (by kernel_rfl) (by first | exact List.Sublist.refl _ | exact List.sublist_append_left _ _) (pv_neqls_same sb_29 rfl rfl rfl) rfl ?_
          refine dr_take 3 rfl (by kernel_rfl) (by first | exact List.Sublist.refl _ | exact List.sublist_append_left _ _) (pv_move rfl) rfl ?_
          refine dr_take_g 4 rfl rfl rfl rfl (by kernel_rfl) (by first | exact List.Sublist.refl _ | exact List.sublist_append_left _ _) (pv_move rfl) rfl ?_
          refine dr_take_g 5 rfl rfl rfl rfl (by kernel_rfl) (by first | exact List.Sublist.refl _ | exact List.sublist_append_left _ _) (pv_move rfl) rfl ?_
          refine dr_take_g 6 rfl rfl rfl rfl (by kernel_rfl) (by first | exact List.Sublist.refl _ | exact List.sublist_append_left _ _) (pv_neq_same rfl rfl) rfl ?_
          refine dr_take 7 rfl (by kernel_rfl) (by first | exact List.Sublist.refl _ | exact List.sublist_append_left _ _) (pv_pick_f rfl rfl rfl) rfl ?_
          refine dr_take 8 rfl (by kernel_rfl) (by first | exact List.Sublist.refl _ | exact List.sublist_append_left _ _) (pv_move rfl) rfl ?_
          refine dr_take_g 9 rfl rfl rfl rfl (by kernel_rfl) (by first | exact List.Sublist.refl _ | exact List.sublist_append_left _ _) (by exact pv_loads_box ag_29 rfl (.s (.s (.s (.s (.s (.s (.s (.s (.s (.s .z)))))))))) (.take (.take (.take (.take (.take .done)))))) rfl ?_
          refine dr_take_g 11 rfl rfl rfl rfl (by kernel_rfl) (by first | exact List.Sublist.refl _ | exact List.sublist_append_left _ _) (by exact pv_loads_box ag_29 rfl (.s (.s (.s (.s (.s (.s (.s (.s (.s (.s .z)))))))))) (.take (.take (.take (.take (.take .done)))))) rfl ?_
          refine dr_one 10 (by kernel_rfl) rfl ?_
          refine at_does_g rfl rfl rfl (does_val cal17 rfl rfl rfl (fun w hs => total_any _ _ _ _ _ w)) rfl (fun _ => ?_)
          refine at_nil (dr_next (fun _ => (by first | exact List.Sublist.refl _ | exact List.sublist_append_left _ _)) ?_)
          refine dr_one 12 (by kernel_rfl) rfl ?_
          refine at_does_g rfl rfl rfl (does_val cal18 rfl rfl rfl (fun w hs => total_ref _ _ _ _ _ w)) rfl (fun _ => ?_)
          refine at_nil (dr_next (fun _ => (by first | exact List.Sublist.refl _ | exact List.sublist_append_left _ _)) ?_)
          refine dr_take_g 13 rfl rfl rfl rfl (by kernel_rfl) (by first | exact List.Sublist.refl _ | exact List.sublist_append_left _ _) (pv_neq_same rfl rfl) rfl ?_
          refine dr_take 14 rfl (by kernel_rfl) (by first | exact List.Sublist.refl _ | exact List.sublist_append_left _ _) (pv_pick_f rfl rfl rfl) rfl ?_
          refine dr_done (by kernel_rfl) ?_
          refine ex_go ?_
          refine cd_else rfl rfl ?_
          refine cd_skip ?_
          refine ex_in_normal (ex_go ?_)
          refine cd_region ?_
          refine at_pure (by first | exact pv_add_n rfl rfl (by unfold In64; omega) | exact pv_add rfl rfl) rfl ?_
          refine at_pure (pv_move rfl) rfl ?_
          refine at_nil ?_
          refine ex_round ?_
          refine cd_seq ?_
          refine cd_region ?_
          refine at_pure (pv_lss rfl rfl) rfl ?_
          refine at_nil ?_
          refine ex_go ?_
          refine cd_seq ?_
          refine cd_then rfl (by decide) ?_
          refine cd_skip ?_
          refine ex_go ?_
          refine cd_seq ?_
          refine cd_block ?_
          refine cd_seq ?_
          refine cd_region ?_
          refine at_pure (pv_indexLit Try.underlying30 cz_27 rfl rfl (by decide) rfl) rfl ?_
          refine at_pure (by exact pv_loads_box ag_27 rfl (.s (.s (.s (.s .z)))) (.skip (.skip (.skip (.skip (.skip (.skip (.skip (.skip (.skip (.skip (.skip (.skip (.skip (.skip (.take (.take (.take (.take (.take (.take (.take .done)))))))))))))))))))))) rfl ?_
          refine at_does (does_alloc ze_27 .agg (fun _ => (.cons (.cons (.cons (.cons (.cons (.cons (.cons (.cons (.cons (.cons (.cons .nil))))))))))))) rfl (fun g39 => ?_)
          refine at_turns (by exact turns_store sz_27 rfl rfl .agg rfl rfl (.s (.s (.s (.s (.s (.s (.s (.s (.s (.s (.s .z))))))))))) (.rep (.rep (.rep (.rep (.rep (.rep (.rep .done))))))) (.s (.s (.s (.s (.s (.s (.s (.s (.s (.s (.s .z)))))))))))) ?_
          refine at_nil ?_
          refine ex_go ?_
          refine cd_seq ?_
          refine cd_region ?_
          refine at_pure (by exact pv_loads_box ag_27 rfl (.s (.s (.s (.s (.s (.s (.s (.s (.s (.s (.s .z))))))))))) (.take (.take (.take (.take (.take (.take (.take .done)))))))) rfl ?_
          refine at_does (does_val cal15 rfl rfl rfl (fun w hs => of_any _ _ _ _ _ _ _ w)) rfl (fun _ => ?_)
          refine at_pure (pv_move rfl) rfl ?_
          refine at_pure (pv_extract rfl rfl) rfl ?_
          refine at_pure (pv_extract rfl rfl) rfl ?_
          refine at_does (does_alloc ze_29 .agg (fun _ => (.cons (.cons (.cons (.cons (.cons (.cons (.cons (.cons (.cons (.cons (.cons (.cons .nil)))))))))))))) rfl (fun g40 => ?_)
          refine at_turns (by exact turns_store sz_29 rfl rfl .agg rfl rfl (.s (.s (.s (.s (.s (.s (.s (.s (.s (.s (.s (.s .z)))))))))))) (.rep (.rep (.rep (.rep (.rep .done))))) (.s (.s (.s (.s (.s (.s (.s (.s (.s (.s (.s (.s .z))))))))))))) ?_
          refine at_pure (pv_assign rfl) rfl ?_
          refine at_nil ?_
          refine ex_go ?_
          refine cd_seq ?_
          refine cd_region ?_
          refine at_pure (by exact pv_loads_box ag_27 rfl (.s (.s (.s (.s (.s (.s (.s (.s (.s (.s (.s .z))))))))))) (.take (.take (.take (.take (.take (.take (.take .done)))))))) rfl ?_
          refine at_does (does_val cal16 rfl rfl rfl (fun w hs => of_ref _ _ _ _ _ _ _ w)) rfl (fun _ => ?_)
          refine at_pure (pv_move rfl) rfl ?_
          refine at_pure (pv_extract rfl rfl) rfl ?_
          refine at_pure (pv_extract rfl rfl) rfl ?_
          refine at_does (does_alloc ze_29 .agg (fun _ => (.cons (.cons (.cons (.cons (.cons (.cons (.cons (.cons (.cons (.cons (.cons (.cons (.cons .nil))))))))))))))) rfl (fun g41 => ?_)
          refine at_turns (by exact turns_store sz_29 rfl rfl .agg rfl rfl (.s (.s (.s (.s (.s (.s (.s (.s (.s (.s (.s (.s (.s .z))))))))))))) (.rep (.rep (.rep (.rep (.rep .done))))) (.s (.s (.s (.s (.s (.s (.s (.s (.s (.s (.s (.s (.s .z)))))))))))))) ?_
          refine at_pure (pv_assign rfl) rfl ?_
          refine at_nil ?_
          refine ex_go ?_
          refine cd_seq ?_
          refine cd_draw' 15 follows ?_
          refine dr_take 0 rfl (by kernel_rfl) (by first | exact List.Sublist.refl _ | exact List.sublist_append_left _ _) (by exact pv_loads_box ag_29 rfl (.s (.s (.s (.s (.s (.s (.s (.s (.s (.s (.s (.s .z)))))))))))) (.take (.take (.take (.take (.take .done)))))) rfl ?_
          refine dr_take 1 rfl (by kernel_rfl) (by first | exact List.Sublist.refl _ | exact List.sublist_append_left _ _) (by exact pv_loads_box ag_29 rfl (.s (.s (.s (.s (.s (.s (.s (.s (.s (.s (.s (.s (.s .z))))))))))))) (.take (.take (.take (.take (.take .done)))))) rfl ?_
          refine dr_take 2 rfl (by kernel_rfl) (by first | exact List.Sublist.refl _ | exact List.sublist_append_left _ _) (pv_neqls_same sb_29 rfl rfl rfl) rfl ?_
          refine dr_take 3 rfl (by kernel_rfl) (by first | exact List.Sublist.refl _ | exact List.sublist_append_left _ _) (pv_move rfl) rfl ?_
          refine dr_take_g 4 rfl rfl rfl rfl (by kernel_rfl) (by first | exact List.Sublist.refl _ | exact List.sublist_append_left _ _) (pv_move rfl) rfl ?_
          refine dr_take_g 5 rfl rfl rfl rfl (by kernel_rfl) (by first | exact List.Sublist.refl _ | exact List.sublist_append_left _ _) (pv_move rfl) rfl ?_
          refine dr_take_g 6 rfl rfl rfl rfl (by kernel_rfl) (by first | exact List.Sublist.refl _ | exact List.sublist_append_left _ _) (pv_neq_same rfl rfl) rfl ?_
          refine dr_take 7 rfl (by kernel_rfl) (by first | exact List.Sublist.refl _ | exact List.sublist_append_left _ _) (pv_pick_f rfl rfl rfl) rfl ?_
          refine dr_take 8 rfl (by kernel_rfl) (by first | exact List.Sublist.refl _ | exact List.sublist_append_left _ _) (pv_move rfl) rfl ?_
          refine dr_take_g 9 rfl rfl rfl rfl (by kernel_rfl) (by first | exact List.Sublist.refl _ | exact List.sublist_append_left _ _) (by exact pv_loads_box ag_29 rfl (.s (.s (.s (.s (.s (.s (.s (.s (.s (.s (.s (.s (.s .z))))))))))))) (.take (.take (.take (.take (.take .done)))))) rfl ?_
          refine dr_take_g 11 rfl rfl rfl rfl (by kernel_rfl) (by first | exact List.Sublist.refl _ | exact List.sublist_append_left _ _) (by exact pv_loads_box ag_29 rfl (.s (.s (.s (.s (.s (.s (.s (.s (.s (.s (.s (.s (.s .z))))))))))))) (.take (.take (.take (.take (.take .done)))))) rfl ?_
          refine dr_one 10 (by kernel_rfl) rfl ?_
          refine at_does_g rfl rfl rfl (does_val cal17 rfl rfl rfl (fun w hs => total_any _ _ _ _ _ w)) rfl (fun _ => ?_)
          refine at_nil (dr_next (fun _ => (by first | exact List.Sublist.refl _ | exact List.sublist_append_left _ _)) ?_)
          refine dr_one 12 (by kernel_rfl) rfl ?_
          refine at_does_g rfl rfl rfl (does_val cal18 rfl rfl rfl (fun w hs => total_ref _ _ _ _ _ w)) rfl (fun _ => ?_)
          refine at_nil (dr_next (fun _ => (by first | exact List.Sublist.refl _ | exact List.sublist_append_left _ _)) ?_)
          refine dr_take_g 13 rfl rfl rfl rfl (by kernel_rfl) (by first | exact List.Sublist.refl _ | exact List.sublist_append_left _ _) (pv_neq_same rfl rfl) rfl ?_
          refine dr_take 14 rfl (by kernel_rfl) (by first | exact List.Sublist.refl _ | exact List.sublist_append_left _ _) (pv_pick_f rfl rfl rfl) rfl ?_
          refine dr_done (by kernel_rfl) ?_
          refine ex_go ?_
          refine cd_else rfl rfl ?_
          refine cd_skip ?_
          refine ex_in_normal (ex_go ?_)
          refine cd_region ?_
          refine at_pure (by first | exact pv_add_n rfl rfl (by unfold In64; omega) | exact pv_add rfl rfl) rfl ?_
          refine at_pure (pv_move rfl) rfl ?_
          refine at_nil ?_
          refine ex_round ?_
          refine cd_seq ?_
          refine cd_region ?_
          refine at_pure (pv_lss rfl rfl) rfl ?_
          refine at_nil ?_
          refine ex_go ?_
          refine cd_seq ?_
          refine cd_else rfl (by decide) ?_
          refine cd_exit ?_
          refine ex_then_exit (ex_then_exit (ex_in (ex_go ?_)))
          refine cd_seq ?_
          refine cd_draw' 5 follows ?_
          refine dr_take 0 rfl (by kernel_rfl) (by first | exact List.Sublist.refl _ | exact List.sublist_append_left _ _) (by exact pv_loads_box ag_29 rfl (.s .z) (.take (.take (.take (.take (.take .done)))))) rfl ?_
          refine dr_take 2 rfl (by kernel_rfl) (by first | exact List.Sublist.refl _ | exact List.sublist_append_left _ _) (by exact pv_loads_box ag_29 rfl (.s .z) (.take (.take (.take (.take (.take .done)))))) rfl ?_
          refine dr_one 1 (by kernel_rfl) rfl ?_
          refine at_does (does_val cal17 rfl rfl rfl (fun w hs => total_any _ _ _ _ _ w)) rfl (fun _ => ?_)
          refine at_nil (dr_next (fun _ => (by first | exact List.Sublist.refl _ | exact List.sublist_append_left _ _)) ?_)
          refine dr_one 3 (by kernel_rfl) rfl ?_
          refine at_does (does_val cal18 rfl rfl rfl (fun w hs => total_ref _ _ _ _ _ w)) rfl (fun _ => ?_)
          refine at_nil (dr_next (fun _ => (by first | exact List.Sublist.refl _ | exact List.sublist_append_left _ _)) ?_)
          refine dr_take 4 rfl (by kernel_rfl) (by first | exact List.Sublist.refl _ | exact List.sublist_append_left _ _) (pv_eql_same rfl rfl) rfl ?_
          refine dr_one 5 (by kernel_rfl) rfl ?_
          refine at_pure (pv_assign rfl) rfl ?_
          refine at_nil (dr_next (fun h => by cases h) ?_)
          refine dr_done (by kernel_rfl) ?_
          refine ex_go ?_
          refine cd_ret ?_
          exact end_ret1 rfl rfl (fun w hs => Val.mk hs)
        · skip
          refine cd_seq ?_
          refine cd_region ?_
          refine at_pure (pv_eql rfl rfl) rfl ?_
          refine at_pure (pv_assign rfl) rfl ?_
          refine at_nil ?_
          refine ex_go ?_
          refine cd_if rfl (fun hb4 => ?_) (fun hb4 => ?_)
          · skip
            refine cd_region ?_
            refine at_pure (pv_field0 fa_27_1 rfl (r := 1) rfl) rfl ?_
            refine at_pure (by exact pv_load ld_3 rfl (box_cell .z (.s .z))) rfl ?_
            refine at_pure (pv_field0 fa_27_1 rfl (r := 1) rfl) rfl ?_
            refine at_turns (by exact turns_store sz_3 rfl rfl (.one rfl) rfl rfl (.s (.s (.s .z))) (.skip (.rep .done)) (.s (.s (.s .z)))) ?_
            refine at_nil ?_
            refine ex_in_normal (ex_go ?_)
            refine cd_seq ?_
            refine cd_seq ?_
            refine cd_region ?_
            refine at_pure (by exact pv_loads_box ag_27 rfl .z (.take (.take (.take (.take (.take (.take (.take .done)))))))) rfl ?_
            refine at_pure (by exact pv_loads_box ag_27 rfl (.s (.s .z)) (.take (.take (.take (.take (.take (.take (.take .done)))))))) rfl ?_
            refine at_pure (by exact pv_loads_box ag_27 rfl (.s (.s (.s .z))) (.take (.take (.take (.take (.take (.take (.take .done)))))))) rfl ?_
            refine at_does (does_list (by rfl) (by exact (bs_30_3_0_1_2 _ _ _ _ _ _ _ _ _ _ _ _ _ _ _ _ _ _ _ _ _)) (by exact (fun _ => (.cons (.cons (.cons (.cons .nil))))))) rfl (fun g42 => ?_)
            refine at_pure (pv_len Try.underlying30 rfl) rfl ?_
            refine at_pure (pv_move rfl) rfl ?_
            refine at_nil ?_
            refine ex_go ?_
            refine cd_block ?_
            refine cd_rounds 3 ?_
            refine cd_seq ?_
            refine cd_region ?_
            refine at_pure (pv_lss rfl rfl) rfl ?_
            refine at_nil ?_
            refine ex_go ?_
            refine cd_seq ?_
            refine cd_then rfl (by decide) ?_
            refine cd_skip ?_
            refine ex_go ?_
            refine cd_seq ?_
            refine cd_block ?_
            refine cd_seq ?_
            refine cd_region ?_
            refine at_pure (pv_indexLit Try.underlying30 cz_27 rfl rfl (by decide) rfl) rfl ?_
            refine at_pure (by exact pv_loads_box ag_27 rfl (.s (.s (.s (.s .z)))) (.take (.take (.take (.take (.take (.take (.take .done)))))))) rfl ?_
            refine at_does (does_alloc ze_27 .agg (fun _ => (.cons (.cons (.cons (.cons (.cons .nil))))))) rfl (fun g43 => ?_)
            refine at_turns (by exact turns_store sz_27 rfl rfl .agg rfl rfl (.s (.s (.s (.s (.s .z))))) (.rep (.rep (.rep (.rep (.rep (.rep (.rep .done))))))) (.s (.s (.s (.s (.s .z)))))) ?_
            refine at_nil ?_
            refine ex_go ?_
            refine cd_seq ?_
            refine cd_region ?_
            refine at_pure (by exact pv_loads_box ag_27 rfl (.s (.s (.s (.s (.s .z))))) (.take (.take (.take (.take (.take (.take (.take .done)))))))) rfl ?_
            refine at_does (does_val cal15 rfl rfl rfl (fun w hs => of_any _ _ _ _ _ _ _ w)) rfl (fun _ => ?_)
            refine at_pure (pv_move rfl) rfl ?_
            refine at_pure (pv_extract rfl rfl) rfl ?_
            refine at_pure (pv_extract rfl rfl) rfl ?_
            refine at_does (does_alloc ze_29 .agg (fun _ => (.cons (.cons (.cons (.cons (.cons (.cons .nil)))))))) rfl (fun g44 => ?_)
            refine at_turns (by exact turns_store sz_29 rfl rfl .agg rfl rfl (.s (.s (.s (.s (.s (.s .z)))))) (.rep (.rep (.rep (.rep (.rep .done))))) (.s (.s (.s (.s (.s (.s .z))))))) ?_
            refine at_pure (pv_assign rfl) rfl ?_
            refine at_nil ?_
            refine ex_go ?_
            refine cd_seq ?_
            refine cd_region ?_
            refine at_pure (by exact pv_loads_box ag_27 rfl (.s (.s (.s (.s (.s .z))))) (.take (.take (.take (.take (.take (.take (.take .done)))))))) rfl ?_
            refine at_does (does_val cal16 rfl rfl rfl (fun w hs => of_ref _ _ _ _ _ _ _ w)) rfl (fun _ => ?_)
            refine at_pure (pv_move rfl) rfl ?_
            refine at_pure (pv_extract rfl rfl) rfl ?_
            refine at_pure (pv_extract rfl rfl) rfl ?_
            refine at_does (does_alloc ze_29 .agg (fun _ => (.cons (.cons (.cons (.cons (.cons (.cons (.cons .nil))))))))) rfl (fun g45 => ?_)
            refine at_turns (by exact turns_store sz_29 rfl rfl .agg rfl rfl (.s (.s (.s (.s (.s (.s (.s .z))))))) (.rep (.rep (.rep (.rep (.rep .done))))) (.s (.s (.s (.s (.s (.s (.s .z)))))))) ?_
            refine at_pure (pv_assign rfl) rfl ?_
            refine at_nil ?_
            refine ex_go ?_
            refine cd_seq ?_
            refine cd_draw' 15 follows ?_
            refine dr_take 0 rfl (by kernel_rfl) (by first | exact List.Sublist.refl _ | exact List.sublist_append_left _ _) (by exact pv_loads_box ag_29 rfl (.s (.s (.s (.s (.s (.s .z)))))) (.take (.take (.take (.take (.take .done)))))) rfl ?_
            refine dr_take 1 rfl (by kernel_rfl) (by first | exact List.Sublist.refl _ | exact List.sublist_append_left _ _) (by exact pv_loads_box ag_29 rfl (.s (.s (.s (.s (.s (.s (.s .z))))))) (.take (.take (.take (.take (.take .done)))))) rfl ?_
            refine dr_take 2 rfl (by kernel_rfl) (by first | exact List.Sublist.refl _ | exact List.sublist_append_left _ _) (pv_neqls_same sb_29 rfl rfl rfl) rfl ?_
            refine dr_take 3 rfl (by kernel_rfl) (by first | exact List.Sublist.refl _ | exact List.sublist_append_left _ _) (pv_move rfl) rfl ?_
            refine dr_take_g 4 rfl rfl rfl rfl (by kernel_rfl) (by first | exact List.Sublist.refl _ | exact List.sublist_append_left _ _) (pv_move rfl) rfl ?_
            refine dr_take_g 5 rfl rfl rfl rfl (by kernel_rfl) (by first | exact List.Sublist.refl _ | exact List.sublist_append_left _ _) (pv_move rfl) rfl ?_
            refine dr_take_g 6 rfl rfl rfl rfl (by kernel_rfl) (by first | exact List.Sublist.refl _ | exact List.sublist_append_left _ _) (pv_neq_same rfl rfl) rfl ?_
            refine dr_take 7 rfl (by kernel_rfl) (by first | exact List.Sublist.refl _ | exact List.sublist_append_left _ _) (pv_pick_f rfl rfl rfl) rfl ?_
            refine dr_take 8 rfl (by kernel_rfl) (by first | exact List.Sublist.refl _ | exact List.sublist_append_left _ _) (pv_move rfl) rfl ?_
            refine dr_take_g 9 rfl rfl rfl rfl (by kernel_rfl) (by first | exact List.Sublist.refl _ | exact List.sublist_append_left _ _) (by exact pv_loads_box ag_29 rfl (.s (.s (.s (.s (.s (.s (.s .z))))))) (.take (.take (.take (.take (.take .done)))))) rfl ?_
            refine dr_take_g 11 rfl rfl rfl rfl (by kernel_rfl) (by first | exact List.Sublist.refl _ | exact List.sublist_append_left _ _) (by exact pv_loads_box ag_29 rfl (.s (.s (.s (.s (.s (.s (.s .z))))))) (.take (.take (.take (.take (.take .done)))))) rfl ?_
            refine dr_one 10 (by kernel_rfl) rfl ?_
            refine at_does_g rfl rfl rfl (does_val cal17 rfl rfl rfl (fun w hs => total_any _ _ _ _ _ w)) rfl (fun _ => ?_)
            refine at_nil (dr_next (fun _ => (by first | exact List.Sublist.refl _ | exact List.sublist_append_left _ _)) ?_)
            refine dr_one 12 (by kernel_rfl) rfl ?_
            refine at_does_g rfl rfl rfl (does_val cal18 rfl rfl rfl (fun w hs => total_ref _ _ _ _ _ w)) rfl (fun _ => ?_)
            refine at_nil (dr_next (fun _ => (by first | exact List.Sublist.refl _ | exact List.sublist_append_left _ _)) ?_)
            refine dr_take_g 13 rfl rfl rfl rfl (by kernel_rfl) (by first | exact List.Sublist.refl _ | exact List.sublist_append_left _ _) (pv_neq_same rfl rfl) rfl ?_
            refine dr_take 14 rfl (by kernel_rfl) (by first | exact List.Sublist.refl _ | exact List.sublist_append_left _ _) (pv_pick_f rfl rfl rfl) rfl ?_
            refine dr_done (by kernel_rfl) ?_
            refine ex_go ?_
            refine cd_else rfl rfl ?_
            refine cd_skip ?_
            refine ex_in_normal (ex_go ?_)
            refine cd_region ?_
            refine at_pure (by first | exact pv_add_n rfl rfl (by unfold In64; omega) | exact pv_add rfl rfl) rfl ?_
            refine at_pure (pv_move rfl) rfl ?_
            refine at_nil ?_
            refine ex_round ?_
            refine cd_seq ?_
            refine cd_region ?_
            refine at_pure (pv_lss rfl rfl) rfl ?_
            refine at_nil ?_
            refine ex_go ?_
            refine cd_seq ?_
            refine cd_then rfl (by decide) ?_
            refine cd_skip ?_
            refine ex_go ?_
            refine cd_seq ?_
            refine cd_block ?_
            refine cd_seq ?_
            refine cd_region ?_
            refine at_pure (pv_indexLit Try.underlying30 cz_27 rfl rfl (by decide) rfl) rfl ?_
            refine at_pure (by exact pv_loads_box ag_27 rfl (.s (.s (.s (.s .z)))) (.skip (.skip (.skip (.skip (.skip (.skip (.skip (.take (.take (.take (.take (.take (.take (.take .done))))))))))))))) rfl ?_
            refine at_does (does_alloc ze_27 .agg (fun _ => (.cons (.cons (.cons (.cons (.cons (.cons (.cons (.cons .nil)))))))))) rfl (fun g46 => ?_)
            refine at_turns (by exact turns_store sz_27 rfl rfl .agg rfl rfl (.s (.s (.s (.s (.s (.s (.s (.s .z)))))))) (.rep (.rep (.rep (.rep (.rep (.rep (.rep .done))))))) (.s (.s (.s (.s (.s (.s (.s (.s .z))))))))) ?_
            refine at_nil ?_
            refine ex_go ?_
            refine cd_seq ?_
            refine cd_region ?_
            refine at_pure (by exact pv_loads_box ag_27 rfl (.s (.s (.s (.s (.s (.s (.s (.s .z)))))))) (.take (.take (.take (.take (.take (.take (.take .done)))))))) rfl ?_
            refine at_does (does_val cal15 rfl rfl rfl (fun w hs => of_any _ _ _ _ _ _ _ w)) rfl (fun _ => ?_)
            refine at_pure (pv_move rfl) rfl ?_
            refine at_pure (pv_extract rfl rfl) rfl ?_
            refine at_pure (pv_extract rfl rfl) rfl ?_
            refine at_does (does_alloc ze_29 .agg (fun _ => (.cons (.cons (.cons (.cons (.cons (.cons (.cons (.cons (.cons .nil))))))))))) rfl (fun g47 => ?_)
            refine at_turns (by exact turns_store sz_29 rfl rfl .agg rfl rfl (.s (.s (.s (.s (.s (.s (.s (.s (.s .z))))))))) (.rep (.rep (.rep (.rep (.rep .done))))) (.s (.s (.s (.s (.s (.s (.s (.s (.s .z)))))))))) ?_
            refine at_pure (pv_assign rfl) rfl ?_
            refine at_nil ?_
            refine ex_go ?_
            refine cd_seq ?_
            refine cd_region ?_
            refine at_pure (by exact pv_loads_box ag_27 rfl (.s (.s (.s (.s (.s (.s (.s (.s .z)))))))) (.take (.take (.take (.take (.take (.take (.take .done)))))))) rfl ?_
            refine at_does (does_val cal16 rfl rfl rfl (fun w hs => of_ref _ _ _ _ _ _ _ w)) rfl (fun _ => ?_)
            refine at_pure (pv_move rfl) rfl ?_
            refine at_pure (pv_extract rfl rfl) rfl ?_
            refine at_pure (pv_extract rfl rfl) rfl ?_
            refine at_does (does_alloc ze_29 .agg (fun _ => (.cons (.cons (.cons (.cons (.cons (.cons (.cons (.cons (.cons (.cons .nil)))))))))))) rfl (fun g48 => ?_)
            refine at_turns (by exact turns_store sz_29 rfl rfl .agg rfl rfl (.s (.s (.s (.s (.s (.s (.s (.s (.s (.s .z)))))))))) (.rep (.rep (.rep (.rep (.rep .done))))) (.s (.s (.s (.s (.s (.s (.s (.s (.s (.s .z))))))))))) ?_
            refine at_pure (pv_assign rfl) rfl ?_
            refine at_nil ?_
            refine ex_go ?_
            refine cd_seq ?_
            refine cd_draw' 15 follows ?_
            refine dr_take 0 rfl (by kernel_rfl) (by first | exact List.Sublist.refl _ | exact List.sublist_append_left _ _) (by exact pv_loads_box ag_29 rfl (.s (.s (.s (.s (.s (.s (.s (.s (.s .z))))))))) (.take (.take (.take (.take (.take .done)))))) rfl ?_
            refine dr_take 1 rfl (by kernel_rfl) (by first | exact List.Sublist.refl _ | exact List.sublist_append_left _ _) (by exact pv_loads_box ag_29 rfl (.s (.s (.s (.s (.s (.s (.s (.s (.s (.s .z)))))))))) (.take (.take (.take (.take (.take .done)))))) rfl ?_
            refine dr_take 2 rfl (by kernel_rfl) (by first | exact List.Sublist.refl _ | exact List.sublist_append_left _ _) (pv_neqls_same sb_29 rfl rfl rfl) rfl ?_
            refine dr_take 3 rfl (by kernel_rfl) (by first | exact List.Sublist.refl _ | exact List.sublist_append_left _ _) (pv_move rfl) rfl ?_
            refine dr_take_g 4 rfl rfl rfl rfl (by kernel_rfl) (by first | exact List.Sublist.refl _ | exact List.sublist_append_left _ _) (pv_move rfl) rfl ?_
            refine dr_take_g 5 rfl rfl rfl rfl (by kernel_rfl) (by first | exact List.Sublist.refl _ | exact List.sublist_append_left _ _) (pv_move rfl) rfl ?_
            refine dr_take_g 6 rfl rfl rfl rfl (by kernel_rfl) (by first | exact List.Sublist.refl _ | exact List.sublist_append_left _ _) (pv_neq_same rfl rfl) rfl ?_
            refine dr_take 7 rfl (by kernel_rfl) (by first | exact List.Sublist.refl _ | exact List.sublist_append_left _ _) (pv_pick_f rfl rfl rfl) rfl ?_
            refine dr_take 8 rfl (by kernel_rfl) (by first | exact List.Sublist.refl _ | exact List.sublist_append_left _ _) (pv_move rfl) rfl ?_
            refine dr_take_g 9 rfl rfl rfl rfl (by kernel_rfl) (by first | exact List.Sublist.refl _ | exact List.sublist_append_left _ _) (by exact pv_loads_box ag_29 rfl (.s (.s (.s (.s (.s (.s (.s (.s (.s (.s .z)))))))))) (.take (.take (.take (.take (.take .done)))))) rfl ?_
            refine dr_take_g 11 rfl rfl rfl rfl (by kernel_rfl) (by first | exact List.Sublist.refl _ | exact List.sublist_append_left _ _) (by exact pv_loads_box ag_29 rfl (.s (.s (.s (.s (.s (.s (.s (.s (.s (.s .z)))))))))) (.take (.take (.take (.take (.take .done)))))) rfl ?_
            refine dr_one 10 (by kernel_rfl) rfl ?_
            refine at_does_g rfl rfl rfl (does_val cal17 rfl rfl rfl (fun w hs => total_any _ _ _ _ _ w)) rfl (fun _ => ?_)
            refine at_nil (dr_next (fun _ => (by first | exact List.Sublist.refl _ | exact List.sublist_append_left _ _)) ?_)
            refine dr_one 12 (by kernel_rfl) rfl ?_
            refine at_does_g rfl rfl rfl (does_val cal18 rfl rfl rfl (fun w hs => total_ref _ _ _ _ _ w)) rfl (fun _ => ?_)
            refine at_nil (dr_next (fun _ => (by first | exact List.Sublist.refl _ | exact List.sublist_append_left _ _)) ?_)
            refine dr_take_g 13 rfl rfl rfl rfl (by kernel_rfl) (by first | exact List.Sublist.refl _ | exact List.sublist_append_left _ _) (pv_neq_same rfl rfl) rfl ?_
            refine dr_take 14 rfl (by kernel_rfl) (by first | exact List.Sublist.refl _ | exact List.sublist_append_left _ _) (pv_pick_f rfl rfl rfl) rfl ?_
            refine dr_done (by kernel_rfl) ?_
            refine ex_go ?_
            refine cd_else rfl rfl ?_
            refine cd_skip ?_
            refine ex_in_normal (ex_go ?_)
            refine cd_region ?_
            refine at_pure (by first | exact pv_add_n rfl rfl (by unfold In64; omega) | exact pv_add rfl rfl) rfl ?_
            refine at_pure (pv_move rfl) rfl ?_
            refine at_nil ?_
            refine ex_round ?_
            refine cd_seq ?_
            refine cd_region ?_
            refine at_pure (pv_lss rfl rfl) rfl ?_
            refine at_nil ?_
            refine ex_go ?_
            refine cd_seq ?_
            refine cd_then rfl (by decide) ?_
            refine cd_skip ?_
            refine ex_go ?_
            refine cd_seq ?_
            refine cd_block ?_
            refine cd_seq ?_
            refine cd_region ?_
            refine at_pure (pv_indexLit Try.underlying30 cz_27 rfl rfl (by decide) rfl) rfl ?_
            refine at_pure (by exact pv_loads_box ag_27 rfl (.s (.s (.s (.s .z)))) (.skip (.skip (.skip (.skip (.skip (.skip (.skip (.skip (.skip (.skip (.skip (.skip (.skip (.skip (.take (.take (.take (.take (.take (.take (.take .done)))))))))))))))))))))) rfl ?_
            refine at_does (does_alloc ze_27 .agg (fun _ => (.cons (.cons (.cons (.cons (.cons (.cons (.cons (.cons (.cons (.cons (.cons .nil))))))))))))) rfl (fun g49 => ?_)
            refine at_turns (by exact turns_store sz_27 rfl rfl .agg rfl rfl (.s (.s (.s (.s (.s (.s (.s (.s (.s (.s (.s .z))))))))))) (.rep (.rep (.rep (.rep (.rep (.rep (.rep .done))))))) (.s (.s (.s (.s (.s (.s (.s (.s (.s (.s (.s .z)))))))))))) ?_
            refine at_nil ?_
            refine ex_go ?_
            refine cd_seq ?_
            refine cd_region ?_
            refine at_pure (by exact pv_loads_box ag_27 rfl (.s (.s (.s (.s (.s (.s (.s (.s (.s (.s (.s .z))))))))))) (.take (.take (.take (.take (.take (.take (.take .done)))))))) rfl ?_
            refine at_does (does_val cal15 rfl rfl rfl (fun w hs => of_any _ _ _ _ _ _ _ w)) rfl (fun _ => ?_)
            refine at_pure (pv_move rfl) rfl ?_
            refine at_pure (pv_extract rfl rfl) rfl ?_
            refine at_pure (pv_extract rfl rfl) rfl ?_
            refine at_does (does_alloc ze_29 .agg (fun _ => (.cons (.cons (.cons (.cons (.cons (.cons (.cons (.cons (.cons (.cons (.cons (.cons .nil)))))))))))))) rfl (fun g50 => ?_)
            refine at_turns (by exact turns_store sz_29 rfl rfl .agg rfl rfl (.s (.s (.s (.s (.s (.s (.s (.s (.s (.s (.s (.s .z)))))))))))) (.rep (.rep (.rep (.rep (.rep .done))))) (.s (.s (.s (.s (.s (.s (.s (.s (.s (.s (.s (.s .z))))))))))))) ?_
            refine at_pure (pv_assign rfl) rfl ?_
            refine at_nil ?_
            refine ex_go ?_
            refine cd_seq ?_
            refine cd_region ?_
            refine at_pure (by exact pv_loads_box ag_27 rfl (.s (.s (.s (.s (.s (.s (.s (.s (.s (.s (.s .z))))))))))) (.take (.take (.take (.take (.take (.take (.take .done)))))))) rfl ?_
            refine at_does (does_val cal16 rfl rfl rfl (fun w hs => of_ref _ _ _ _ _ _ _ w)) rfl (fun _ => ?_)
            refine at_pure (pv_move rfl) rfl ?_
            refine at_pure (pv_extract rfl rfl) rfl ?_
            refine at_pure (pv_extract rfl rfl) rfl ?_
            refine at_does (does_alloc ze_29 .agg (fun _ => (.cons (.cons (.cons (.cons (.cons (.cons (.cons (.cons (.cons (.cons (.cons (.cons (.cons .nil))))))))))))))) rfl (fun g51 => ?_)
            refine at_turns (by exact turns_store sz_29 rfl rfl .agg rfl rfl (.s (.s (.s (.s (.s (.s (.s (.s (.s (.s (.s (.s (.s .z))))))))))))) (.rep (.rep (.rep (.rep (.rep .done))))) (.s (.s (.s (.s (.s (.s (.s (.s (.s (.s (.s (.s (.s .z)))))))))))))) ?_
            refine at_pure (pv_assign rfl) rfl ?_
            refine at_nil ?_
            refine ex_go ?_
            refine cd_seq ?_
            refine cd_draw' 15 follows ?_
            refine dr_take 0 rfl (by kernel_rfl) (by first | exact List.Sublist.refl _ | exact List.sublist_append_left _ _) (by exact pv_loads_box ag_29 rfl (.s (.s (.s (.s (.s (.s (.s (.s (.s (.s (.s (.s .z)))))))))))) (.take (.take (.take (.take (.take .done)))))) rfl ?_
            refine dr_take 1 rfl (by kernel_rfl) (by first | exact List.Sublist.refl _ | exact List.sublist_append_left _ _) (by exact pv_loads_box ag_29 rfl (.s (.s (.s (.s (.s (.s (.s (.s (.s (.s (.s (.s (.s .z))))))))))))) (.take (.take (.take (.take (.take .done)))))) rfl ?_
            refine dr_take 2 rfl (by kernel_rfl) (by first | exact List.Sublist.refl _ | exact List.sublist_append_left _ _) (pv_neqls_same sb_29 rfl rfl rfl) rfl ?_
            refine dr_take 3 rfl (by kernel_rfl) (by first | exact List.Sublist.refl _ | exact List.sublist_append_left _ _) (pv_move rfl) rfl ?_
            refine dr_take_g 4 rfl rfl rfl rfl (by kernel_rfl) (by first | exact List.Sublist.refl _ | exact List.sublist_append_left _ _) (pv_move rfl) rfl ?_
            refine dr_take_g 5 rfl rfl rfl rfl (by kernel_rfl) (by first | exact List.Sublist.refl _ | exact List.sublist_append_left _ _) (pv_move rfl) rfl ?_
            refine dr_take_g 6 rfl rfl rfl rfl (by kernel_rfl) (by first | exact List.Sublist.refl _ | exact List.sublist_append_left _ _) (pv_neq_same rfl rfl) rfl ?_
            refine dr_take 7 rfl (by kernel_rfl) (by first | exact List.Sublist.refl _ | exact List.sublist_append_left _ _) (pv_pick_f rfl rfl rfl) rfl ?_
            refine dr_take 8 rfl (by kernel_rfl) (by first | exact List.Sublist.refl _ | exact List.sublist_append_left _ _) (pv_move rfl) rfl ?_
            refine dr_take_g 9 rfl rfl rfl rfl (by kernel_rfl) (by first | exact List.Sublist.refl _ | exact List.sublist_append_left _ _) (by exact pv_loads_box ag_29 rfl (.s (.s (.s (.s (.s (.s (.s (.s (.s (.s (.s (.s (.s .z))))))))))))) (.take (.take (.take (.take (.take .done)))))) rfl ?_
            refine dr_take_g 11 rfl rfl rfl rfl (by kernel_rfl) (by first | exact List.Sublist.refl _ | exact List.sublist_append_left _ _) (by exact pv_loads_box ag_29 rfl (.s (.s (.s (.s (.s (.s (.s (.s (.s (.s (.s (.s (.s .z))))))))))))) (.take (.take (.take (.take (.take .done)))))) rfl ?_
            refine dr_one 10 (by kernel_rfl) rfl ?_
            refine at_does_g rfl rfl rfl (does_val cal17 rfl rfl rfl (fun w hs => total_any _ _ _ _ _ w)) rfl (fun _ => ?_)
            refine at_nil (dr_next (fun _ => (by first | exact List.Sublist.refl _ | exact List.sublist_append_left _ _)) ?_)
            refine dr_one 12 (by kernel_rfl) rfl ?_
            refine at_does_g rfl rfl rfl (does_val cal18 rfl rfl rfl (fun w hs => total_ref _ _ _ _ _ w)) rfl (fun _ => ?_)
            refine at_nil (dr_next (fun _ => (by first | exact List.Sublist.refl _ | exact List.sublist_append_left _ _)) ?_)
            refine dr_take_g 13 rfl rfl rfl rfl (by kernel_rfl) (by first | exact List.Sublist.refl _ | exact List.sublist_append_left _ _) (pv_neq_same rfl rfl) rfl ?_
            refine dr_take 14 rfl (by kernel_rfl) (by first | exact List.Sublist.refl _ | exact List.sublist_append_left _ _) (pv_pick_f rfl rfl rfl) rfl ?_
            refine dr_done (by kernel_rfl) ?_
            refine ex_go ?_
            refine cd_else rfl rfl ?_
            refine cd_skip ?_
            refine ex_in_normal (ex_go ?_)
            refine cd_region ?_
            refine at_pure (by first | exact pv_add_n rfl rfl (by unfold In64; omega) | exact pv_add rfl rfl) rfl ?_
            refine at_pure (pv_move rfl) rfl ?_
            refine at_nil ?_
            refine ex_round ?_
            refine cd_seq ?_
            refine cd_region ?_
            refine at_pure (pv_lss rfl rfl) rfl ?_
            refine at_nil ?_
            refine ex_go ?_
            refine cd_seq ?_
            refine cd_else rfl (by decide) ?_
            refine cd_exit ?_
            refine ex_then_exit (ex_then_exit (ex_in (ex_go ?_)))
            refine cd_seq ?_
            refine cd_draw' 5 follows ?_
            refine dr_take 0 rfl (by kernel_rfl) (by first | exact List.Sublist.refl _ | exact List.sublist_append_left _ _) (by exact pv_loads_box ag_29 rfl (.s .z) (.take (.take (.take (.take (.take .done)))))) rfl ?_
            refine dr_take 2 rfl (by kernel_rfl) (by first | exact List.Sublist.refl _ | exact List.sublist_append_left _ _) (by exact pv_loads_box ag_29 rfl (.s .z) (.take (.take (.take (.take (.take .done)))))) rfl ?_
            refine dr_one 1 (by kernel_rfl) rfl ?_
            refine at_does (does_val cal17 rfl rfl rfl (fun w hs => total_any _ _ _ _ _ w)) rfl (fun _ => ?_)
            refine at_nil (dr_next (fun _ => (by first | exact List.Sublist.refl _ | exact List.sublist_append_left _ _)) ?_)
            refine dr_one 3 (by kernel_rfl) rfl ?_
            refine at_does (does_val cal18 rfl rfl rfl (fun w hs => total_ref _ _ _ _ _ w)) rfl (fun _ => ?_)
            refine at_nil (dr_next (fun _ => (by first | exact List.Sublist.refl _ | exact List.sublist_append_left _ _)) ?_)
            refine dr_take 4 rfl (by kernel_rfl) (by first | exact List.Sublist.refl _ | exact List.sublist_append_left _ _) (pv_eql_same rfl rfl) rfl ?_
            refine dr_one 5 (by kernel_rfl) rfl ?_
            refine at_pure (pv_assign rfl) rfl ?_
            refine at_nil (dr_next (fun h => by cases h) ?_)
            refine dr_done (by kernel_rfl) ?_
            refine ex_go ?_
            refine cd_ret ?_
            exact end_ret1 rfl rfl (fun w hs => Val.mk hs)
          · skip
            refine cd_seq ?_
            refine cd_region ?_
            refine at_pure (pv_eql rfl rfl) rfl ?_
            refine at_pure (pv_assign rfl) rfl ?_
            refine at_nil ?_
            refine ex_go ?_
            refine cd_if rfl (fun hb5 => ?_) (fun hb5 => ?_)
            · skip
              refine cd_region ?_
              refine at_pure (pv_field0 fa_27_6 rfl (r := 6) rfl) rfl ?_
              refine at_pure (by exact pv_load ld_3 rfl (box_cell .z (.s (.s (.s (.s (.s (.s .z)))))))) rfl ?_
              refine at_pure (pv_field0 fa_27_6 rfl (r := 6) rfl) rfl ?_
              refine at_turns (by exact turns_store sz_3 rfl rfl (.one rfl) rfl rfl (.s (.s (.s .z))) (.skip (.skip (.skip (.skip (.skip (.skip (.rep .done))))))) (.s (.s (.s .z)))) ?_
              refine at_nil ?_
              refine ex_in_normal (ex_go ?_)
              refine cd_seq ?_
              refine cd_seq ?_
              refine cd_region ?_
              refine at_pure (by exact pv_loads_box ag_27 rfl .z (.take (.take (.take (.take (.take (.take (.take .done)))))))) rfl ?_
              refine at_pure (by exact pv_loads_box ag_27 rfl (.s (.s .z)) (.take (.take (.take (.take (.take (.take (.take .done)))))))) rfl ?_
              refine at_pure (by exact pv_loads_box ag_27 rfl (.s (.s (.s .z))) (.take (.take (.take (.take (.take (.take (.take .done)))))))) rfl ?_
              refine at_does (does_list (by rfl) (by exact (bs_30_3_0_1_2 _ _ _ _ _ _ _ _ _ _ _ _ _ _ _ _ _ _ _ _ _)) (by exact (fun _ => (.cons (.cons (.cons (.cons .nil))))))) rfl (fun g52 => ?_)
              refine at_pure (pv_len Try.underlying30 rfl) rfl ?_
              refine at_pure (pv_move rfl) rfl ?_
              refine at_nil ?_
              refine ex_go ?_
              refine cd_block ?_
              refine cd_rounds 3 ?_
              refine cd_seq ?_
              refine cd_region ?_
              refine at_pure (pv_lss rfl rfl) rfl ?_
              refine at_nil ?_
              refine ex_go ?_
              refine cd_seq ?_
              refine cd_then rfl (by decide) ?_
              refine cd_skip ?_
              refine ex_go ?_
              refine cd_seq ?_
              refine cd_block ?_
              refine cd_seq ?_
              refine cd_region ?_
              refine at_pure (pv_indexLit Try.underlying30 cz_27 rfl rfl (by decide) rfl) rfl ?_
              refine at_pure (by exact pv_loads_box ag_27 rfl (.s (.s (.s (.s .z)))) (.take (.take (.take (.take (.take (.take (.take .done)))))))) rfl ?_
              refine at_does (does_alloc ze_27 .agg (fun _ => (.cons (.cons (.cons (.cons (.cons .nil))))))) rfl (fun g53 => ?_)
              refine at_turns (by exact turns_store sz_27 rfl rfl .agg rfl rfl (.s (.s (.s (.s (.s .z))))) (.rep (.rep (.rep (.rep (.rep (.rep (.rep .done))))))) (.s (.s (.s (.s (.s .z)))))) ?_
              refine at_nil ?_
              refine ex_go ?_
              refine cd_seq ?_
              refine cd_region ?_
              refine at_pure (by exact pv_loads_box ag_27 rfl (.s (.s (.s (.s (.s .z))))) (.take (.take (.take (.take (.take (.take (.take .done)))))))) rfl ?_
              refine at_does (does_val cal15 rfl rfl rfl (fun w hs => of_any _ _ _ _ _ _ _ w)) rfl (fun _ => ?_)
              refine at_pure (pv_move rfl) rfl ?_
              refine at_pure (pv_extract rfl rfl) rfl ?_
              refine at_pure (pv_extract rfl rfl) rfl ?_
              refine at_does (does_alloc ze_29 .agg (fun _ => (.cons (.cons (.cons (.cons (.cons (.cons .nil)))))))) rfl (fun g54 => ?_)
              refine at_turns (by exact turns_store sz_29 rfl rfl .agg rfl rfl (.s (.s (.s (.s (.s (.s .z)))))) (.rep (.rep (.rep (.rep (.rep .done))))) (.s (.s (.s (.s (.s (.s .z))))))) ?_
              refine at_pure (pv_assign rfl) rfl ?_
              refine at_nil ?_
              refine ex_go ?_
              refine cd_seq ?_
              refine cd_region ?_
              refine at_pure (by exact pv_loads_box ag_27 rfl (.s (.s (.s (.s (.s .z))))) (.take (.take (.take (.take (.take (.take (.take .done)))))))) rfl ?_
              refine at_does (does_val cal16 rfl rfl rfl (fun w hs => of_ref _ _ _ _ _ _ _ w)) rfl (fun _ => ?_)
              refine at_pure (pv_move rfl) rfl ?_
              refine at_pure (pv_extract rfl rfl) rfl ?_
              refine at_pure (pv_extract rfl rfl) rfl ?_
              refine at_does (does_alloc ze_29 .agg (fun _ => (.cons (.cons (.cons (.cons (.cons (.cons (.cons .nil))))))))) rfl (fun g55 => ?_)
              refine at_turns (by exact turns_store sz_29 rfl rfl .agg rfl rfl (.s (.s (.s (.s (.s (.s (.s .z))))))) (.rep (.rep (.rep (.rep (.rep .done))))) (.s (.s (.s (.s (.s (.s (.s .z)))))))) ?_
              refine at_pure (pv_assign rfl) rfl ?_
              refine at_nil ?_
              refine ex_go ?_
              refine cd_seq ?_
              refine cd_draw' 15 follows ?_
              refine dr_take 0 rfl (by kernel_rfl) (by first | exact List.Sublist.refl _ | exact List.sublist_append_left _ _) (by exact pv_loads_box ag_29 rfl (.s (.s (.s (.s (.s (.s .z)))))) (.take (.take (.take (.take (.take .done)))))) rfl ?_
              refine dr_take 1 rfl (by kernel_rfl) (by first | exact List.Sublist.refl _ | exact List.sublist_append_left _ _) (by exact pv_loads_box ag_29 rfl (.s (.s (.s (.s (.s (.s (.s .z))))))) (.take (.take (.take (.take (.take .done)))))) rfl ?_
              refine dr_take 2 rfl (by kernel_rfl) (by first | exact List.Sublist.refl _ | exact List.sublist_append_left _ _) (pv_neqls_same sb_29 rfl rfl rfl) rfl ?_
              refine dr_take 3 rfl (by kernel_rfl) (by first | exact List.Sublist.refl _ | exact List.sublist_append_left _ _) (pv_move rfl) rfl ?_
              refine dr_take_g 4 rfl rfl rfl rfl (by kernel_rfl) (by first | exact List.Sublist.refl _ | exact List.sublist_append_left _ _) (pv_move rfl) rfl ?_
              refine dr_take_g 5 rfl rfl rfl rfl (by kernel_rfl) (by first | exact List.Sublist.refl _ | exact List.sublist_append_left _ _) (pv_move rfl) rfl ?_
              refine dr_take_g 6 rfl rfl rfl rfl (by kernel_rfl) (by first | exact List.Sublist.refl _ | exact List.sublist_append_left _ _) (pv_neq_same rfl rfl) rfl ?_
              refine dr_take 7 rfl (by kernel_rfl) (by first | exact List.Sublist.refl _ | exact List.sublist_append_left _ _) (pv_pick_f rfl rfl rfl) rfl ?_
              refine dr_take 8 rfl (by kernel_rfl) (by first | exact List.Sublist.refl _ | exact List.sublist_append_left _ _) (pv_move rfl) rfl ?_
              refine dr_take_g 9 rfl rfl rfl rfl (by kernel_rfl) (by first | exact List.Sublist.refl _ | exact List.sublist_append_left _ _) (by exact pv_loads_box ag_29 rfl (.s (.s (.s (.s (.s (.s (.s .z))))))) (.take (.take (.take (.take (.take .done)))))) rfl ?_
              refine dr_take_g 11 rfl rfl rfl rfl (by kernel_rfl) (by first | exact List.Sublist.refl _ | exact List.sublist_append_left _ _) (by exact pv_loads_box ag_29 rfl (.s (.s (.s (.s (.s (.s (.s .z))))))) (.take (.take (.take (.take (.take .done)))))) rfl ?_
              refine dr_one 10 (by kernel_rfl) rfl ?_
              refine at_does_g rfl rfl rfl (does_val cal17 rfl rfl rfl (fun w hs => total_any _ _ _ _ _ w)) rfl (fun _ => ?_)
              refine at_nil (dr_next (fun _ => (by first | exact List.Sublist.refl _ | exact List.sublist_append_left _ _)) ?_)
              refine dr_one 12 (by kernel_rfl) rfl ?_
              refine at_does_g rfl rfl rfl (does_val cal18 rfl rfl rfl (fun w hs => total_ref _ _ _ _ _ w)) rfl (fun _ => ?_)
              refine at_nil (dr_next (fun _ => (by first | exact List.Sublist.refl _ | exact List.sublist_append_left _ _)) ?_)
              refine dr_take_g 13 rfl rfl rfl rfl (by kernel_rfl) (by first | exact List.Sublist.refl _ | exact List.sublist_append_left _ _) (pv_neq_same rfl rfl) rfl ?_
              refine dr_take 14 rfl (by kernel_rfl) (by first | exact List.Sublist.refl _ | exact List.sublist_append_left _ _) (pv_pick_f rfl rfl rfl) rfl ?_
              refine dr_done (by kernel_rfl) ?_
              refine ex_go ?_
              refine cd_else rfl rfl ?_
              refine cd_skip ?_
              refine ex_in_normal (ex_go ?_)
              refine cd_region ?_
              refine at_pure (by first | exact pv_add_n rfl rfl (by unfold In64; omega) | exact pv_add rfl rfl) rfl ?_
              refine at_pure (pv_move rfl) rfl ?_
              refine at_nil ?_
              refine ex_round ?_
              refine cd_seq ?_
              refine cd_region ?_
              refine at_pure (pv_lss rfl rfl) rfl ?_
              refine at_nil ?_
              refine ex_go ?_
              refine cd_seq ?_
              refine cd_then rfl (by decide) ?_
              refine cd_skip ?_
              refine ex_go ?_
              refine cd_seq ?_
              refine cd_block ?_
              refine cd_seq ?_
              refine cd_region ?_
              refine at_pure (pv_indexLit Try.underlying30 cz_27 rfl rfl (by decide) rfl) rfl ?_
              refine at_pure (by exact pv_loads_box ag_27 rfl (.s (.s (.s (.s .z)))) (.skip (.skip (.skip (.skip (.skip (.skip (.skip (.take (.take (.take (.take (.take (.take (.take .done))))))))))))))) rfl ?_
              refine at_does (does_alloc ze_27 .agg (fun _ => (.cons (.cons (.cons (.cons (.cons (.cons (.cons (.cons .nil)))))))))) rfl (fun g56 => ?_)
              refine at_turns (by exact turns_store sz_27 rfl rfl .agg rfl rfl (.s (.s (.s (.s (.s (.s (.s (.s .z)))))))) (.rep (.rep (.rep (.rep (.rep (.rep (.rep .done))))))) (.s (.s (.s (.s (.s (.s (.s (.s .z))))))))) ?_
              refine at_nil ?_
              refine ex_go ?_
              refine cd_seq ?_
              refine cd_region ?_
              refine at_pure (by exact pv_loads_box ag_27 rfl (.s (.s (.s (.s (.s (.s (.s (.s .z)))))))) (.take (.take (.take (.take (.take (.take (.take .done)))))))) rfl ?_
              refine at_does (does_val cal15 rfl rfl rfl (fun w hs => of_any _ _ _ _ _ _ _ w)) rfl (fun _ => ?_)
              refine at_pure (pv_move rfl) rfl ?_
              refine at_pure (pv_extract rfl rfl) rfl ?_
              refine at_pure (pv_extract rfl rfl) rfl ?_
              refine at_does (does_alloc ze_29 .agg (fun _ => (.cons (.cons (.cons (.cons (.cons (.cons (.cons (.cons (.cons .nil))))))))))) rfl (fun g57 => ?_)
              refine at_turns (by exact turns_store sz_29 rfl rfl .agg rfl rfl (.s (.s (.s (.s (.s (.s (.s (.s (.s .z))))))))) (.rep (.rep (.rep (.rep (.rep .done))))) (.s (.s (.s (.s (.s (.s (.s (.s (.s .z)))))))))) ?_
              refine at_pure (pv_assign rfl) rfl ?_
              refine at_nil ?_
              refine ex_go ?_
              refine cd_seq ?_
              refine cd_region ?_
              refine at_pure (by exact pv_loads_box ag_27 rfl (.s (.s (.s (.s (.s (.s (.s (.s .z)))))))) (.take (.take (.take (.take (.take (.take (.take .done)))))))) rfl ?_
              refine at_does (does_val cal16 rfl rfl rfl (fun w hs => of_ref _ _ _ _ _ _ _ w)) rfl (fun _ => ?_)
              refine at_pure (pv_move rfl) rfl ?_
              refine at_pure (pv_extract rfl rfl) rfl ?_
              refine at_pure (pv_extract rfl rfl) rfl ?_
              refine at_does (does_alloc ze_29 .agg (fun _ => (.cons (.cons (.cons (.cons (.cons (.cons (.cons (.cons (.cons (.cons .nil)))))))))))) rfl (fun g58 => ?_)
              refine at_turns (by exact turns_store sz_29 rfl rfl .agg rfl rfl (.s (.s (.s (.s (.s (.s (.s (.s (.s (.s .z)))))))))) (.rep (.rep (.rep (.rep (.rep .done))))) (.s (.s (.s (.s (.s (.s (.s (.s (.s (.s .z))))))))))) ?_
              refine at_pure (pv_assign rfl) rfl ?_
              refine at_nil ?_
              refine ex_go ?_
              refine cd_seq ?_
              refine cd_draw' 15 follows ?_
              refine dr_take 0 rfl (by kernel_rfl) (by first | exact List.Sublist.refl _ | exact List.sublist_append_left _ _) (by exact pv_loads_box ag_29 rfl (.s (.s (.s (.s (.s (.s (.s (.s (.s .z))))))))) (.take (.take (.take (.take (.take .done)))))) rfl ?_
              refine dr_take 1 rfl (by kernel_rfl) (by first | exact List.Sublist.refl _ | exact List.sublist_append_left _ _) (by exact pv_loads_box ag_29 rfl (.s (.s (.s (.s (.s (.s (.s (.s (.s (.s .z)))))))))) (.take (.take (.take (.take (.take .done)))))) rfl ?_
              refine dr_take 2 rfl (by kernel_rfl) (by first | exact List.Sublist.refl _ | exact List.sublist_append_left _ _) (pv_neqls_same sb_29 rfl rfl rfl) rfl ?_
              refine dr_take 3 rfl (by kernel_rfl) (by first | exact List.Sublist.refl _ | exact List.sublist_append_left _ _) (pv_move rfl) rfl ?_
              refine dr_take_g 4 rfl rfl rfl rfl (by kernel_rfl) (by first | exact List.Sublist.refl _ | exact List.sublist_append_left _ _) (pv_move rfl) rfl ?_
              refine dr_take_g 5 rfl rfl rfl rfl (by kernel_rfl) (by first | exact List.Sublist.refl _ | exact List.sublist_append_left _ _) (pv_move rfl) rfl ?_
              refine dr_take_g 6 rfl rfl rfl rfl (by kernel_rfl) (by first | exact List.Sublist.refl _ | exact List.sublist_append_left _ _) (pv_neq_same rfl rfl) rfl ?_
              refine dr_take 7 rfl (by kernel_rfl) (by first | exact List.Sublist.refl _ | exact List.sublist_append_left _ _) (pv_pick_f rfl rfl rfl) rfl ?_
              refine dr_take 8 rfl (by kernel_rfl) (by first | exact List.Sublist.refl _ | exact List.sublist_append_left _ _) (pv_move rfl) rfl ?_
              refine dr_take_g 9 rfl rfl rfl rfl (by kernel_rfl) (by first | exact List.Sublist.refl _ | exact List.sublist_append_left _ _) (by exact pv_loads_box ag_29 rfl (.s (.s (.s (.s (.s (.s (.s (.s (.s (.s .z)))))))))) (.take (.take (.take (.take (.take .done)))))) rfl ?_
              refine dr_take_g 11 rfl rfl rfl rfl (by kernel_rfl) (by first | exact List.Sublist.refl _ | exact List.sublist_append_left _ _) (by exact pv_loads_box ag_29 rfl (.s (.s (.s (.s (.s (.s (.s (.s (.s (.s .z)))))))))) (.take (.take (.take (.take (.take .done)))))) rfl ?_
              refine dr_one 10 (by kernel_rfl) rfl ?_
              refine at_does_g rfl rfl rfl (does_val cal17 rfl rfl rfl (fun w hs => total_any _ _ _ _ _ w)) rfl (fun _ => ?_)
              refine at_nil (dr_next (fun _ => (by first | exact List.Sublist.refl _ | exact List.sublist_append_left _ _)) ?_)
              refine dr_one 12 (by kernel_rfl) rfl ?_
              refine at_does_g rfl rfl rfl (does_val cal18 rfl rfl rfl (fun w hs => total_ref _ _ _ _ _ w)) rfl (fun _ => ?_)
              refine at_nil (dr_next (fun _ => (by first | exact List.Sublist.refl _ | exact List.sublist_append_left _ _)) ?_)
              refine dr_take_g 13 rfl rfl rfl rfl (by kernel_rfl) (by first | exact List.Sublist.refl _ | exact List.sublist_append_left _ _) (pv_neq_same rfl rfl) rfl ?_
              refine dr_take 14 rfl (by kernel_rfl) (by first | exact List.Sublist.refl _ | exact List.sublist_append_left _ _) (pv_pick_f rfl rfl rfl) rfl ?_
              refine dr_done (by kernel_rfl) ?_
              refine ex_go ?_
              refine cd_else rfl rfl ?_
              refine cd_skip ?_
              refine ex_in_normal (ex_go ?_)
              refine cd_region ?_
              refine at_pure (by first | exact pv_add_n rfl rfl (by unfold In64; omega) | exact pv_add rfl rfl) rfl ?_
              refine at_pure (pv_move rfl) rfl ?_
              refine at_nil ?_
              refine ex_round ?_
              refine cd_seq ?_
              refine cd_region ?_
              refine at_pure (pv_lss rfl rfl) rfl ?_
              refine at_nil ?_
              refine ex_go ?_
              refine cd_seq ?_
              refine cd_then rfl (by decide) ?_
              refine cd_skip ?_
              refine ex_go ?_
              refine cd_seq ?_
              refine cd_block ?_
              refine cd_seq ?_
              refine cd_region ?_
              refine at_pure (pv_indexLit Try.underlying30 cz_27 rfl rfl (by decide) rfl) rfl ?_
              refine at_pure (by exact pv_loads_box ag_27 rfl (.s (.s (.s (.s .z)))) (.skip (.skip (.skip (.skip (.skip (.skip (.skip (.skip (.skip (.skip (.skip (.skip (.skip (.skip (.take (.take (.take (.take (.take (.take (.take .done)))))))))))))))))))))) rfl ?_
              refine at_does (does_alloc ze_27 .agg (fun _ => (.cons (.cons (.cons (.cons (.cons (.cons (.cons (.cons (.cons (.cons (.cons .nil))))))))))))) rfl (fun g59 => ?_)
              refine at_turns (by exact turns_store sz_27 rfl rfl .agg rfl rfl (.s (.s (.s (.s (.s (.s (.s (.s (.s (.s (.s .z))))))))))) (.rep (.rep (.rep (.rep (.rep (.rep (.rep .done))))))) (.s (.s (.s (.s (.s (.s (.s (.s (.s (.s (.s .z)))))))))))) ?_
              refine at_nil ?_
              refine ex_go ?_
              refine cd_seq ?_
              refine cd_region ?_
              refine at_pure (by exact pv_loads_box ag_27 rfl (.s (.s (.s (.s (.s (.s (.s (.s (.s (.s (.s .z))))))))))) (.take (.take (.take (.take (.take (.take (.take .done)))))))) rfl ?_
              refine at_does (does_val cal15 rfl rfl rfl (fun w hs => of_any _ _ _ _ _ _ _ w)) rfl (fun _ => ?_)
              refine at_pure (pv_move rfl) rfl ?_
              refine at_pure (pv_extract rfl rfl) rfl ?_
              refine at_pure (pv_extract rfl rfl) rfl ?_
              refine at_does (does_alloc ze_29 .agg (fun _ => (.cons (.cons (.cons (.cons (.cons (.cons (.cons (.cons (.cons (.cons (.cons (.cons .nil)))))))))))))) rfl (fun g60 => ?_)
              refine at_turns (by exact turns_store sz_29 rfl rfl .agg rfl rfl (.s (.s (.s (.s (.s (.s (.s (.s (.s (.s (.s (.s .z)))))))))))) (.rep (.rep (.rep (.rep (.rep .done))))) (.s (.s (.s (.s (.s (.s (.s (.s (.s (.s (.s (.s .z))))))))))))) ?_
              refine at_pure (pv_assign rfl) rfl ?_
              refine at_nil ?_
              refine ex_go ?_
              refine cd_seq ?_
              refine cd_region ?_
              refine at_pure (by exact pv_loads_box ag_27 rfl (.s (.s (.s (.s (.s (.s (.s (.s (.s (.s (.s .z))))))))))) (.take (.take (.take (.take (.take (.take (.take .done)))))))) rfl ?_
              refine at_does (does_val cal16 rfl rfl rfl (fun w hs => of_ref _ _ _ _ _ _ _ w)) rfl (fun _ => ?_)
              refine at_pure (pv_move rfl) rfl ?_
              refine at_pure (pv_extract rfl rfl) rfl ?_
              refine at_pure (pv_extract rfl rfl) rfl ?_
              refine at_does (does_alloc ze_29 .agg (fun _ => (.cons (.cons (.cons (.cons (.cons (.cons (.cons (.cons (.cons (.cons (.cons (.cons (.cons .nil))))))))))))))) rfl (fun g61 => ?_)
              refine at_turns (by exact turns_store sz_29 rfl rfl .agg rfl rfl (.s (.s (.s (.s (.s (.s (.s (.s (.s (.s (.s (.s (.s .z))))))))))))) (.rep (.rep (.rep (.rep (.rep .done))))) (.s (.s (.s (.s (.s (.s (.s (.s (.s (.s (.s (.s (.s .z)))))))))))))) ?_
              refine at_pure (pv_assign rfl) rfl ?_
              refine at_nil ?_
              refine ex_go ?_
              refine cd_seq ?_
              refine cd_draw' 15 follows ?_
              refine dr_take 0 rfl (by kernel_rfl) (by first | exact List.Sublist.refl _ | exact List.sublist_append_left _ _) (by exact pv_loads_box ag_29 rfl (.s (.s (.s (.s (.s (.s (.s (.s (.s (.s (.s (.s .z)))))))))))) (.take (.take (.take (.take (.take .done)))))) rfl ?_
              refine dr_take 1 rfl (by kernel_rfl) (by first | exact List.Sublist.refl _ | exact List.sublist_append_left _ _) (by exact pv_loads_box ag_29 rfl (.s (.s (.s (.s (.s (.s (.s (.s (.s (.s (.s (.s (.s .z))))))))))))) (.take (.take (.take (.take (.take .done)))))) rfl ?_
              refine dr_take 2 rfl (by kernel_rfl) (by first | exact List.Sublist.refl _ | exact List.sublist_append_left _ _) (pv_neqls_same sb_29 rfl rfl rfl) rfl ?_
              refine dr_take 3 rfl (by kernel_rfl) (by first | exact List.Sublist.refl _ | exact List.sublist_append_left _ _) (pv_move rfl) rfl ?_
              refine dr_take_g 4 rfl rfl rfl rfl (by kernel_rfl) (by first | exact List.Sublist.refl _ | exact List.sublist_append_left _ _) (pv_move rfl) rfl ?_
              refine dr_take_g 5 rfl rfl rfl rfl (by kernel_rfl) (by first | exact List.Sublist.refl _ | exact List.sublist_append_left _ _) (pv_move rfl) rfl ?_
              refine dr_take_g 6 rfl rfl rfl rfl (by kernel_rfl) (by first | exact List.Sublist.refl _ | exact List.sublist_append_left _ _) (pv_neq_same rfl rfl) rfl ?_
              refine dr_take 7 rfl (by kernel_rfl) (by first | exact List.Sublist.refl _ | exact List.sublist_append_left _ _) (pv_pick_f rfl rfl rfl) rfl ?_
              refine dr_take 8 rfl (by kernel_rfl) (by first | exact List.Sublist.refl _ | exact List.sublist_append_left _ _) (pv_move rfl) rfl ?_
              refine dr_take_g 9 rfl rfl rfl rfl (by kernel_rfl) (by first | exact List.Sublist.refl _ | exact List.sublist_append_left _ _) (by exact pv_loads_box ag_29 rfl (.s (.s (.s (.s (.s (.s (.s (.s (.s (.s (.s (.s (.s .z))))))))))))) (.take (.take (.take (.take (.take .done)))))) rfl ?_
              refine dr_take_g 11 rfl rfl rfl rfl (by kernel_rfl) (by first | exact List.Sublist.refl _ | exact List.sublist_append_left _ _) (by exact pv_loads_box ag_29 rfl (.s (.s (.s (.s (.s (.s (.s (.s (.s (.s (.s (.s (.s .z))))))))))))) (.take (.take (.take (.take (.take .done)))))) rfl ?_
              refine dr_one 10 (by kernel_rfl) rfl ?_
              refine at_does_g rfl rfl rfl (does_val cal17 rfl rfl rfl (fun w hs => total_any _ _ _ _ _ w)) rfl (fun _ => ?_)
              refine at_nil (dr_next (fun _ => (by first | exact List.Sublist.refl _ | exact List.sublist_append_left _ _)) ?_)
              refine dr_one 12 (by kernel_rfl) rfl ?_
              refine at_does_g rfl rfl rfl (does_val cal18 rfl rfl rfl (fun w hs => total_ref _ _ _ _ _ w)) rfl (fun _ => ?_)
              refine at_nil (dr_next (fun _ => (by first | exact List.Sublist.refl _ | exact List.sublist_append_left _ _)) ?_)
              refine dr_take_g 13 rfl rfl rfl rfl (by kernel_rfl) (by first | exact List.Sublist.refl _ | exact List.sublist_append_left _ _) (pv_neq_same rfl rfl) rfl ?_
              refine dr_take 14 rfl (by kernel_rfl) (by first | exact List.Sublist.refl _ | exact List.sublist_append_left _ _) (pv_pick_f rfl rfl rfl) rfl ?_
              refine dr_done (by kernel_rfl) ?_
              refine ex_go ?_
              refine cd_else rfl rfl ?_
              refine cd_skip ?_
              refine ex_in_normal (ex_go ?_)
              refine cd_region ?_
              refine at_pure (by first | exact pv_add_n rfl rfl (by unfold In64; omega) | exact pv_add rfl rfl) rfl ?_
              refine at_pure (pv_move rfl) rfl ?_
              refine at_nil ?_
              refine ex_round ?_
              refine cd_seq ?_
              refine cd_region ?_
              refine at_pure (pv_lss rfl rfl) rfl ?_
              refine at_nil ?_
              refine ex_go ?_
              refine cd_seq ?_
              refine cd_else rfl (by decide) ?_
              refine cd_exit ?_
              refine ex_then_exit (ex_then_exit (ex_in (ex_go ?_)))
              refine cd_seq ?_
              refine cd_draw' 5 follows ?_
              refine dr_take 0 rfl (by kernel_rfl) (by first | exact List.Sublist.refl _ | exact List.sublist_append_left _ _) (by exact pv_loads_box ag_29 rfl (.s .z) (.take (.take (.take (.take (.take .done)))))) rfl ?_
              refine dr_take 2 rfl (by kernel_rfl) (by first | exact List.Sublist.refl _ | exact List.sublist_append_left _ _) (by exact pv_loads_box ag_29 rfl (.s .z) (.take (.take (.take (.take (.take .done)))))) rfl ?_
              refine dr_one 1 (by kernel_rfl) rfl ?_
              refine at_does (does_val cal17 rfl rfl rfl (fun w hs => total_any _ _ _ _ _ w)) rfl (fun _ => ?_)
              refine at_nil (dr_next (fun _ => (by first | exact List.Sublist.refl _ | exact List.sublist_append_left _ _)) ?_)
              refine dr_one 3 (by kernel_rfl) rfl ?_
              refine at_does (does_val cal18 rfl rfl rfl (fun w hs => total_ref _ _ _ _ _ w)) rfl (fun _ => ?_)
              refine at_nil (dr_next (fun _ => (by first | exact List.Sublist.refl _ | exact List.sublist_append_left _ _)) ?_)
              refine dr_take 4 rfl (by kernel_rfl) (by first | exact List.Sublist.refl _ | exact List.sublist_append_left _ _) (pv_eql_same rfl rfl) rfl ?_
              refine dr_one 5 (by kernel_rfl) rfl ?_
              refine at_pure (pv_assign rfl) rfl ?_
              refine at_nil (dr_next (fun h => by cases h) ?_)
              refine dr_done (by kernel_rfl) ?_
              refine ex_go ?_
              refine cd_ret ?_
              exact end_ret1 rfl rfl (fun w hs => Val.mk hs)
            · skip
              refine cd_skip ?_
              refine ex_in_normal (ex_go ?_)
              refine cd_seq ?_
              refine cd_seq ?_
              refine cd_region ?_
              refine at_pure (by exact pv_loads_box ag_27 rfl .z (.take (.take (.take (.take (.take (.take (.take .done)))))))) rfl ?_
              refine at_pure (by exact pv_loads_box ag_27 rfl (.s (.s .z)) (.take (.take (.take (.take (.take (.take (.take .done)))))))) rfl ?_
              refine at_pure (by exact pv_loads_box ag_27 rfl (.s (.s (.s .z))) (.take (.take (.take (.take (.take (.take (.take .done)))))))) rfl ?_
              refine at_does (does_list (by rfl) (by exact (bs_30_3_0_1_2 _ _ _ _ _ _ _ _ _ _ _ _ _ _ _ _ _ _ _ _ _)) (by exact (fun _ => (.cons (.cons (.cons (.cons .nil))))))) rfl (fun g62 => ?_)
              refine at_pure (pv_len Try.underlying30 rfl) rfl ?_
              refine at_pure (pv_move rfl) rfl ?_
              refine at_nil ?_
              refine ex_go ?_
              refine cd_block ?_
              refine cd_rounds 3 ?_
              refine cd_seq ?_
              refine cd_region ?_
              refine at_pure (pv_lss rfl rfl) rfl ?_
              refine at_nil ?_
              refine ex_go ?_
              refine cd_seq ?_
              refine cd_then rfl (by decide) ?_
              refine cd_skip ?_
              refine ex_go ?_
              refine cd_seq ?_
              refine cd_block ?_
              refine cd_seq ?_
              refine cd_region ?_
              refine at_pure (pv_indexLit Try.underlying30 cz_27 rfl rfl (by decide) rfl) rfl ?_
              refine at_pure (by exact pv_loads_box ag_27 rfl (.s (.s (.s (.s .z)))) (.take (.take (.take (.take (.take (.take (.take .done)))))))) rfl ?_
              refine at_does (does_alloc ze_27 .agg (fun _ => (.cons (.cons (.cons (.cons (.cons .nil))))))) rfl (fun g63 => ?_)
              refine at_turns (by exact turns_store sz_27 rfl rfl .agg rfl rfl (.s (.s (.s (.s (.s .z))))) (.rep (.rep (.rep (.rep (.rep (.rep (.rep .done))))))) (.s (.s (.s (.s (.s .z)))))) ?_
              refine at_nil ?_
              refine ex_go ?_
              refine cd_seq ?_
              refine cd_region ?_
              refine at_pure (by exact pv_loads_box ag_27 rfl (.s (.s (.s (.s (.s .z))))) (.take (.take (.take (.take (.take (.take (.take .done)))))))) rfl ?_
              refine at_does (does_val cal15 rfl rfl rfl (fun w hs => of_any _ _ _ _ _ _ _ w)) rfl (fun _ => ?_)
              refine at_pure (pv_move rfl) rfl ?_
              refine at_pure (pv_extract rfl rfl) rfl ?_
              refine at_pure (pv_extract rfl rfl) rfl ?_
              refine at_does (does_alloc ze_29 .agg (fun _ => (.cons (.cons (.cons (.cons (.cons (.cons .nil)))))))) rfl (fun g64 => ?_)
              refine at_turns (by exact turns_store sz_29 rfl rfl .agg rfl rfl (.s (.s (.s (.s (.s (.s .z)))))) (.rep (.rep (.rep (.rep (.rep .done))))) (.s (.s (.s (.s (.s (.s .z))))))) ?_
              refine at_pure (pv_assign rfl) rfl ?_
              refine at_nil ?_
              refine ex_go ?_
              refine cd_seq ?_
              refine cd_region ?_
              refine at_pure (by exact pv_loads_box ag_27 rfl (.s (.s (.s (.s (.s .z))))) (.take (.take (.take (.take (.take (.take (.take .done)))))))) rfl ?_
              refine at_does (does_val cal16 rfl rfl rfl (fun w hs => of_ref _ _ _ _ _ _ _ w)) rfl (fun _ => ?_)
              refine at_pure (pv_move rfl) rfl ?_
              refine at_pure (pv_extract rfl rfl) rfl ?_
              refine at_pure (pv_extract rfl rfl) rfl ?_
              refine at_does (does_alloc ze_29 .agg (fun _ => (.cons (.cons (.cons (.cons (.cons (.cons (.cons .nil))))))))) rfl (fun g65 => ?_)
              refine at_turns (by exact turns_store sz_29 rfl rfl .agg rfl rfl (.s (.s (.s (.s (.s (.s (.s .z))))))) (.rep (.rep (.rep (.rep (.rep .done))))) (.s (.s (.s (.s (.s (.s (.s .z)))))))) ?_
              refine at_pure (pv_assign rfl) rfl ?_
              refine at_nil ?_
              refine ex_go ?_
              refine cd_seq ?_
              refine cd_draw' 15 follows ?_
              refine dr_take 0 rfl (by kernel_rfl) (by first | exact List.Sublist.refl _ | exact List.sublist_append_left _ _) (by exact pv_loads_box ag_29 rfl (.s (.s (.s (.s (.s (.s .z)))))) (.take (.take (.take (.take (.take .done)))))) rfl ?_
              refine dr_take 1 rfl (by kernel_rfl) (by first | exact List.Sublist.refl _ | exact List.sublist_append_left _ _) (by exact pv_loads_box ag_29 rfl (.s (.s (.s (.s (.s (.s (.s .z))))))) (.take (.take (.take (.take (.take .done)))))) rfl ?_
              refine dr_take 2 rfl (by kernel_rfl) (by first | exact List.Sublist.refl _ | exact List.sublist_append_left _ _) (pv_neqls_same sb_29 rfl rfl rfl) rfl ?_
              refine dr_take 3 rfl (by kernel_rfl) (by first | exact List.Sublist.refl _ | exact List.sublist_append_left _ _) (pv_move rfl) rfl ?_
              refine dr_take_g 4 rfl rfl rfl rfl (by kernel_rfl) (by first | exact List.Sublist.refl _ | exact List.sublist_append_left _ _) (pv_move rfl) rfl ?_
              refine dr_take_g 5 rfl rfl rfl rfl (by kernel_rfl) (by first | exact List.Sublist.refl _ | exact List.sublist_append_left _ _) (pv_move rfl) rfl ?_
              refine dr_take_g 6 rfl rfl rfl rfl (by kernel_rfl) (by first | exact List.Sublist.refl _ | exact List.sublist_append_left _ _) (pv_neq_same rfl rfl) rfl ?_
              refine dr_take 7 rfl (by kernel_rfl) (by first | exact List.Sublist.refl _ | exact List.sublist_append_left _ _) (pv_pick_f rfl rfl rfl) rfl ?_
              refine dr_take 8 rfl (by kernel_rfl) (by first | exact List.Sublist.refl _ | exact List.sublist_append_left _ _) (pv_move rfl) rfl ?_
              refine dr_take_g 9 rfl rfl rfl rfl (by kernel_rfl) (by first | exact List.Sublist.refl _ | exact List.sublist_append_left _ _) (by exact pv_loads_box ag_29 rfl (.s (.s (.s (.s (.s (.s (.s .z))))))) (.take (.take (.take (.take (.take .done)))))) rfl ?_
              refine dr_take_g 11 rfl rfl rfl rfl (by kernel_rfl) (by first | exact List.Sublist.refl _ | exact List.sublist_append_left _ _) (by exact pv_loads_box ag_29 rfl (.s (.s (.s (.s (.s (.s (.s .z))))))) (.take (.take (.take (.take (.take .done)))))) rfl ?_
              refine dr_one 10 (by kernel_rfl) rfl ?_
              refine at_does_g rfl rfl rfl (does_val cal17 rfl rfl rfl (fun w hs => total_any _ _ _ _ _ w)) rfl (fun _ => ?_)
              refine at_nil (dr_next (fun _ => (by first | exact List.Sublist.refl _ | exact List.sublist_append_left _ _)) ?_)
              refine dr_one 12 (by kernel_rfl) rfl ?_
              refine at_does_g rfl rfl rfl (does_val cal18 rfl rfl rfl (fun w hs => total_ref _ _ _ _ _ w)) rfl (fun _ => ?_)
              refine at_nil (dr_next (fun _ => (by first | exact List.Sublist.refl _ | exact List.sublist_append_left _ _)) ?_)
              refine dr_take_g 13 rfl rfl rfl rfl (by kernel_rfl) (by first | exact List.Sublist.refl _ | exact List.sublist_append_left _ _) (pv_neq_same rfl rfl) rfl ?_
              refine dr_take 14 rfl (by kernel_rfl) (by first | exact List.Sublist.refl _ | exact List.sublist_append_left _ _) (pv_pick_f rfl rfl rfl) rfl ?_
              refine dr_done (by kernel_rfl) ?_
              refine ex_go ?_
              refine cd_else rfl rfl ?_
              refine cd_skip ?_
              refine ex_in_normal (ex_go ?_)
              refine cd_region ?_
              refine at_pure (by first | exact pv_add_n rfl rfl (by unfold In64; omega) | exact pv_add rfl rfl) rfl ?_
              refine at_pure (pv_move rfl) rfl ?_
              refine at_nil ?_
              refine ex_round ?_
              refine cd_seq ?_
              refine cd_region ?_
              refine at_pure (pv_lss rfl rfl) rfl ?_
              refine at_nil ?_
              refine ex_go ?_
              refine cd_seq ?_
              refine cd_then rfl (by decide) ?_
              refine cd_skip ?_
              refine ex_go ?_
              refine cd_seq ?_
              refine cd_block ?_
              refine cd_seq ?_
              refine cd_region ?_
              refine at_pure (pv_indexLit Try.underlying30 cz_27 rfl rfl (by decide) rfl) rfl ?_
              refine at_pure (by exact pv_loads_box ag_27 rfl (.s (.s (.s (.s .z)))) (.skip (.skip (.skip (.skip (.skip (.skip (.skip (.take (.take (.take (.take (.take (.take (.take .done))))))))))))))) rfl ?_
              refine at_does (does_alloc ze_27 .agg (fun _ => (.cons (.cons (.cons (.cons (.cons (.cons (.cons (.cons .nil)))))))))) rfl (fun g66 => ?_)
              refine at_turns (by exact turns_store sz_27 rfl rfl .agg rfl rfl (.s (.s (.s (.s (.s (.s (.s (.s .z)))))))) (.rep (.rep (.rep (.rep (.rep (.rep (.rep .done))))))) (.s (.s (.s (.s (.s (.s (.s (.s .z))))))))) ?_
              refine at_nil ?_
              refine ex_go ?_
              refine cd_seq ?_
              refine cd_region ?_
              refine at_pure (by exact pv_loads_box ag_27 rfl (.s (.s (.s (.s (.s (.s (.s (.s .z)))))))) (.take (.take (.take (.take (.take (.take (.take .done)))))))) rfl ?_
              refine at_does (does_val cal15 rfl rfl rfl (fun w hs => of_any _ _ _ _ _ _ _ w)) rfl (fun _ => ?_)
              refine at_pure (pv_move rfl) rfl ?_
              refine at_pure (pv_extract rfl rfl) rfl ?_
              refine at_pure (pv_extract rfl rfl) rfl ?_
              refine at_does (does_alloc ze_29 .agg (fun _ => (.cons (.cons (.cons (.cons (.cons (.cons (.cons (.cons (.cons .nil))))))))))) rfl (fun g67 => ?_)
              refine at_turns (by exact turns_store sz_29 rfl rfl .agg rfl rfl (.s (.s (.s (.s (.s (.s (.s (.s (.s .z))))))))) (.rep (.rep (.rep (.rep (.rep .done))))) (.s (.s (.s (.s (.s (.s (.s (.s (.s .z)))))))))) ?_
              refine at_pure (pv_assign rfl) rfl ?_
              refine at_nil ?_
              refine ex_go ?_
              refine cd_seq ?_
              refine cd_region ?_
              refine at_pure (by exact pv_loads_box ag_27 rfl (.s (.s (.s (.s (.s (.s (.s (.s .z)))))))) (.take (.take (.take (.take (.take (.take (.take .done)))))))) rfl ?_
              refine at_does (does_val cal16 rfl rfl rfl (fun w hs => of_ref _ _ _ _ _ _ _ w)) rfl (fun _ => ?_)
              refine at_pure (pv_move rfl) rfl ?_
              refine at_pure (pv_extract rfl rfl) rfl ?_
              refine at_pure (pv_extract rfl rfl) rfl ?_
              refine at_does (does_alloc ze_29 .agg (fun _ => (.cons (.cons (.cons (.cons (.cons (.cons (.cons (.cons (.cons (.cons .nil)))))))))))) rfl (fun g68 => ?_)
              refine at_turns (by exact turns_store sz_29 rfl rfl .agg rfl rfl (.s (.s (.s (.s (.s (.s (.s (.s (.s (.s .z)))))))))) (.rep (.rep (.rep (.rep (.rep .done))))) (.s (.s (.s (.s (.s (.s (.s (.s (.s (.s .z))))))))))) ?_
              refine at_pure (pv_assign rfl) rfl ?_
              refine at_nil ?_
              refine ex_go ?_
              refine cd_seq ?_
              refine cd_draw' 15 follows ?_
              refine dr_take 0 rfl (by kernel_rfl) (by first | exact List.Sublist.refl _ | exact List.sublist_append_left _ _) (by exact pv_loads_box ag_29 rfl (.s (.s (.s (.s (.s (.s (.s (.s (.s .z))))))))) (.take (.take (.take (.take (.take .done)))))) rfl ?_
              refine dr_take 1 rfl (by kernel_rfl) (by first | exact List.Sublist.refl _ | exact List.sublist_append_left _ _) (by exact pv_loads_box ag_29 rfl (.s (.s (.s (.s (.s (.s (.s (.s (.s (.s .z)))))))))) (.take (.take (.take (.take (.take .done)))))) rfl ?_
              refine dr_take 2 rfl (by kernel_rfl) (by first | exact List.Sublist.refl _ | exact List.sublist_append_left _ _) (pv_neqls_same sb_29 rfl rfl rfl) rfl ?_
              refine dr_take 3 rfl (by kernel_rfl) (by first | exact List.Sublist.refl _ | exact List.sublist_append_left _ _) (pv_move rfl) rfl ?_
              refine dr_take_g 4 rfl rfl rfl rfl (by kernel_rfl) (by first | exact List.Sublist.refl _ | exact List.sublist_append_left _ _) (pv_move rfl) rfl ?_
              refine dr_take_g 5 rfl rfl rfl rfl (by kernel_rfl) (by first | exact List.Sublist.refl _ | exact List.sublist_append_left _ _) (pv_move rfl) rfl ?_
              refine dr_take_g 6 rfl rfl rfl rfl (by kernel_rfl) (by first | exact List.Sublist.refl _ | exact List.sublist_append_left _ _) (pv_neq_same rfl rfl) rfl ?_
              refine dr_take 7 rfl (by kernel_rfl) (by first | exact List.Sublist.refl _ | exact List.sublist_append_left _ _) (pv_pick_f rfl rfl rfl) rfl ?_
              refine dr_take 8 rfl (by kernel_rfl) (by first | exact List.Sublist.refl _ | exact List.sublist_append_left _ _) (pv_move rfl) rfl ?_
              refine dr_take_g 9 rfl rfl rfl rfl (by kernel_rfl) (by first | exact List.Sublist.refl _ | exact List.sublist_append_left _ _) (by exact pv_loads_box ag_29 rfl (.s (.s (.s (.s (.s (.s (.s (.s (.s (.s .z)))))))))) (.take (.take (.take (.take (.take .done)))))) rfl ?_
              refine dr_take_g 11 rfl rfl rfl rfl (by kernel_rfl) (by first | exact List.Sublist.refl _ | exact List.sublist_append_left _ _) (by exact pv_loads_box ag_29 rfl (.s (.s (.s (.s (.s (.s (.s (.s (.s (.s .z)))))))))) (.take (.take (.take (.take (.take .done)))))) rfl ?_
              refine dr_one 10 (by kernel_rfl) rfl ?_
              refine at_does_g rfl rfl rfl (does_val cal17 rfl rfl rfl (fun w hs => total_any _ _ _ _ _ w)) rfl (fun _ => ?_)
              refine at_nil (dr_next (fun _ => (by first | exact List.Sublist.refl _ | exact List.sublist_append_left _ _)) ?_)
              refine dr_one 12 (by kernel_rfl) rfl ?_
              refine at_does_g rfl rfl rfl (does_val cal18 rfl rfl rfl (fun w hs => total_ref _ _ _ _ _ w)) rfl (fun _ => ?_)
              refine at_nil (dr_next (fun _ => (by first | exact List.Sublist.refl _ | exact List.sublist_append_left _ _)) ?_)
              refine dr_take_g 13 rfl rfl rfl rfl (by kernel_rfl) (by first | exact List.Sublist.refl _ | exact List.sublist_append_left _ _) (pv_neq_same rfl rfl) rfl ?_
              refine dr_take 14 rfl (by kernel_rfl) (by first | exact List.Sublist.refl _ | exact List.sublist_append_left _ _) (pv_pick_f rfl rfl rfl) rfl ?_
              refine dr_done (by kernel_rfl) ?_
              refine ex_go ?_
              refine cd_else rfl rfl ?_
              refine cd_skip ?_
              refine ex_in_normal (ex_go ?_)
              refine cd_region ?_
              refine at_pure (by first | exact pv_add_n rfl rfl (by unfold In64; omega) | exact pv_add rfl rfl) rfl ?_
              refine at_pure (pv_move rfl) rfl ?_
              refine at_nil ?_
              refine ex_round ?_
              refine cd_seq ?_
              refine cd_region ?_
              refine at_pure (pv_lss rfl rfl) rfl ?_
              refine at_nil ?_
              refine ex_go ?_
              refine cd_seq ?_
              refine cd_then rfl (by decide) ?_
              refine cd_skip ?_
              refine ex_go ?_
              refine cd_seq ?_
              refine cd_block ?_
              refine cd_seq ?_
              refine cd_region ?_
              refine at_pure (pv_indexLit Try.underlying30 cz_27 rfl rfl (by decide) rfl) rfl ?_
              refine at_pure (by exact pv_loads_box ag_27 rfl (.s (.s (.s (.s .z)))) (.skip (.skip (.skip (.skip (.skip (.skip (.skip (.skip (.skip (.skip (.skip (.skip (.skip (.skip (.take (.take (.take (.take (.take (.take (.take .done)))))))))))))))))))))) rfl ?_
              refine at_does (does_alloc ze_27 .agg (fun _ => (.cons (.cons (.cons (.cons (.cons (.cons (.cons (.cons (.cons (.cons (.cons .nil))))))))))))) rfl (fun g69 => ?_)
              refine at_turns (by exact turns_store sz_27 rfl rfl .agg rfl rfl (.s (.s (.s (.s (.s (.s (.s (.s (.s (.s (.s .z))))))))))) (.rep (.rep (.rep (.rep (.rep (.rep (.rep .done))))))) (.s (.s (.s (.s (.s (.s (.s (.s (.s (.s (.s .z)))))))))))) ?_
              refine at_nil ?_
              refine ex_go ?_
              refine cd_seq ?_
              refine cd_region ?_
              refine at_pure (by exact pv_loads_box ag_27 rfl (.s (.s (.s (.s (.s (.s (.s (.s (.s (.s (.s .z))))))))))) (.take (.take (.take (.take (.take (.take (.take .done)))))))) rfl ?_
              refine at_does (does_val cal15 rfl rfl rfl (fun w hs => of_any _ _ _ _ _ _ _ w)) rfl (fun _ => ?_)
              refine at_pure (pv_move rfl) rfl ?_
              refine at_pure (pv_extract rfl rfl) rfl ?_
              refine at_pure (pv_extract rfl rfl) rfl ?_
              refine at_does (does_alloc ze_29 .agg (fun _ => (.cons (.cons (.cons (.cons (.cons (.cons (.cons (.cons (.cons (.cons (.cons (.cons .nil)))))))))))))) rfl (fun g70 => ?_)
              refine at_turns (by exact turns_store sz_29 rfl rfl .agg rfl rfl (.s (.s (.s (.s (.s (.s (.s (.s (.s (.s (.s (.s .z)))))))))))) (.rep (.rep (.rep (.rep (.rep .done))))) (.s (.s (.s (.s (.s (.s (.s (.s (.s (.s (.s (.s .z))))))))))))) ?_
              refine at_pure (pv_assign rfl) rfl ?_
              refine at_nil ?_
              refine ex_go ?_
              refine cd_seq ?_
              refine cd_region ?_
              refine at_pure (by exact pv_loads_box ag_27 rfl (.s (.s (.s (.s (.s (.s (.s (.s (.s (.s (.s .z))))))))))) (.take (.take (.take (.take (.take (.take (.take .done)))))))) rfl ?_
              refine at_does (does_val cal16 rfl rfl rfl (fun w hs => of_ref _ _ _ _ _ _ _ w)) rfl (fun _ => ?_)
              refine at_pure (pv_move rfl) rfl ?_
              refine at_pure (pv_extract rfl rfl) rfl ?_
              refine at_pure (pv_extract rfl rfl) rfl ?_
              refine at_does (does_alloc ze_29 .agg (fun _ => (.cons (.cons (.cons (.cons (.cons (.cons (.cons (.cons (.cons (.cons (.cons (.cons (.cons .nil))))))))))))))) rfl (fun g71 => ?_)
              refine at_turns (by exact turns_store sz_29 rfl rfl .agg rfl rfl (.s (.s (.s (.s (.s (.s (.s (.s (.s (.s (.s (.s (.s .z))))))))))))) (.rep (.rep (.rep (.rep (.rep .done))))) (.s (.s (.s (.s (.s (.s (.s (.s (.s (.s (.s (.s (.s .z)))))))))))))) ?_
              refine at_pure (pv_assign rfl) rfl ?_
              refine at_nil ?_
              refine ex_go ?_
              refine cd_seq ?_
              refine cd_draw' 15 follows ?_
              refine dr_take 0 rfl (by kernel_rfl) (by first | exact List.Sublist.refl _ | exact List.sublist_append_left _ _) (by exact pv_loads_box ag_29 rfl (.s (.s (.s (.s (.s (.s (.s (.s (.s (.s (.s (.s .z)))))))))))) (.take (.take (.take (.take (.take .done)))))) rfl ?_
              refine dr_take 1 rfl (by kernel_rfl) (by first | exact List.Sublist.refl _ | exact List.sublist_append_left _ _) (by exact pv_loads_box ag_29 rfl (.s (.s (.s (.s (.s (.s (.s (.s (.s (.s (.s (.s (.s .z))))))))))))) (.take (.take (.take (.take (.take .done)))))) rfl ?_
              refine dr_take 2 rfl (by kernel_rfl) (by first | exact List.Sublist.refl _ | exact List.sublist_append_left _ _) (pv_neqls_same sb_29 rfl rfl rfl) rfl ?_
              refine dr_take 3 rfl (by kernel_rfl) (by first | exact List.Sublist.refl _ | exact List.sublist_append_left _ _) (pv_move rfl) rfl ?_
              refine dr_take_g 4 rfl rfl rfl rfl (by kernel_rfl) (by first | exact List.Sublist.refl _ | exact List.sublist_append_left _ _) (pv_move rfl) rfl ?_
              refine dr_take_g 5 rfl rfl rfl rfl (by kernel_rfl) (by first | exact List.Sublist.refl _ | exact List.sublist_append_left _ _) (pv_move rfl) rfl ?_
              refine dr_take_g 6 rfl rfl rfl rfl (by kernel_rfl) (by first | exact List.Sublist.refl _ | exact List.sublist_append_left _ _) (pv_neq_same rfl rfl) rfl ?_
              refine dr_take 7 rfl (by kernel_rfl) (by first | exact List.Sublist.refl _ | exact List.sublist_append_left _ _) (pv_pick_f rfl rfl rfl) rfl ?_
              refine dr_take 8 rfl (by kernel_rfl) (by first | exact List.Sublist.refl _ | exact List.sublist_append_left _ _) (pv_move rfl) rfl ?_
              refine dr_take_g 9 rfl rfl rfl rfl (by kernel_rfl) (by first | exact List.Sublist.refl _ | exact List.sublist_append_left _ _) (by exact pv_loads_box ag_29 rfl (.s (.s (.s (.s (.s (.s (.s (.s (.s (.s (.s (.s (.s .z))))))))))))) (.take (.take (.take (.take (.take .done)))))) rfl ?_
              refine dr_take_g 11 rfl rfl rfl rfl (by kernel_rfl) (by first | exact List.Sublist.refl _ | exact List.sublist_append_left _ _) (by exact pv_loads_box ag_29 rfl (.s (.s (.s (.s (.s (.s (.s (.s (.s (.s (.s (.s (.s .z))))))))))))) (.take (.take (.take (.take (.take .done)))))) rfl ?_
              refine dr_one 10 (by kernel_rfl) rfl ?_
              refine at_does_g rfl rfl rfl (does_val cal17 rfl rfl rfl (fun w hs => total_any _ _ _ _ _ w)) rfl (fun _ => ?_)
              refine at_nil (dr_next (fun _ => (by first | exact List.Sublist.refl _ | exact List.sublist_append_left _ _)) ?_)
              refine dr_one 12 (by kernel_rfl) rfl ?_
              refine at_does_g rfl rfl rfl (does_val cal18 rfl rfl rfl (fun w hs => total_ref _ _ _ _ _ w)) rfl (fun _ => ?_)
              refine at_nil (dr_next (fun _ => (by first | exact List.Sublist.refl _ | exact List.sublist_append_left _ _)) ?_)
              refine dr_take_g 13 rfl rfl rfl rfl (by kernel_rfl) (by first | exact List.Sublist.refl _ | exact List.sublist_append_left _ _) (pv_neq_same rfl rfl) rfl ?_
              refine dr_take 14 rfl (by kernel_rfl) (by first | exact List.Sublist.refl _ | exact List.sublist_append_left _ _) (pv_pick_f rfl rfl rfl) rfl ?_
              refine dr_done (by kernel_rfl) ?_
              refine ex_go ?_
              refine cd_else rfl rfl ?_
              refine cd_skip ?_
              refine ex_in_normal (ex_go ?_)
              refine cd_region ?_
              refine at_pure (by first | exact pv_add_n rfl rfl (by unfold In64; omega) | exact pv_add rfl rfl) rfl ?_
              refine at_pure (pv_move rfl) rfl ?_
              refine at_nil ?_
              refine ex_round ?_
              refine cd_seq ?_
              refine cd_region ?_
              refine at_pure (pv_lss rfl rfl) rfl ?_
              refine at_nil ?_
              refine ex_go ?_
              refine cd_seq ?_
              refine cd_else rfl (by decide) ?_
              refine cd_exit ?_
              refine ex_then_exit (ex_then_exit (ex_in (ex_go ?_)))
              refine cd_seq ?_
              refine cd_draw' 5 follows ?_
              refine dr_take 0 rfl (by kernel_rfl) (by first | exact List.Sublist.refl _ | exact List.sublist_append_left _ _) (by exact pv_loads_box ag_29 rfl (.s .z) (.take (.take (.take (.take (.take .done)))))) rfl ?_
              refine dr_take 2 rfl (by kernel_rfl) (by first | exact List.Sublist.refl _ | exact List.sublist_append_left _ _) (by exact pv_loads_box ag_29 rfl (.s .z) (.take (.take (.take (.take (.take .done)))))) rfl ?_
              refine dr_one 1 (by kernel_rfl) rfl ?_
              refine at_does (does_val cal17 rfl rfl rfl (fun w hs => total_any _ _ _ _ _ w)) rfl (fun _ => ?_)
              refine at_nil (dr_next (fun _ => (by first | exact List.Sublist.refl _ | exact List.sublist_append_left _ _)) ?_)
              refine dr_one 3 (by kernel_rfl) rfl ?_
              refine at_does (does_val cal18 rfl rfl rfl (fun w hs => total_ref _ _ _ _ _ w)) rfl (fun _ => ?_)
              refine at_nil (dr_next (fun _ => (by first | exact List.Sublist.refl _ | exact List.sublist_append_left _ _)) ?_)
              refine dr_take 4 rfl (by kernel_rfl) (by first | exact List.Sublist.refl _ | exact List.sublist_append_left _ _) (pv_eql_same rfl rfl) rfl ?_
              refine dr_one 5 (by kernel_rfl) rfl ?_
              refine at_pure (pv_assign rfl) rfl ?_
              refine at_nil (dr_next (fun h => by cases h) ?_)
              refine dr_done (by kernel_rfl) ?_
              refine ex_go ?_
              refine cd_ret ?_
              exact end_ret1 rfl rfl (fun w hs => Val.mk hs)

end Go.Proofs.Ytaflnbnikabeaaa
