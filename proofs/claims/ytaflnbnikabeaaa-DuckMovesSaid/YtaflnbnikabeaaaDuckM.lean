/- The walk of the law of the duck's moves, and its arithmetic. -/
import Derived.Test.YtaflnbnikabeaaaDuck
set_option linter.unusedVariables false
set_option linter.unusedSimpArgs false
namespace Go.Proofs.Ytaflnbnikabeaaa.Duck
open Go Go.RowKit Go.Proofs.YtaflnbnikabeaaaV Go.Proofs.Ytaflnbnikabeaaa
theorem cdiv_one (d f : Int) (h1 : 0 < d) (h2 : d ≤ f) : (d + f - 1) / f = 1 := by
  have e : d + f - 1 = (d - 1) + 1 * f := by omega
  rw [e, Int.add_mul_ediv_right _ _ (by omega), Int.ediv_eq_zero_of_lt (by omega) (by omega)]; rfl
theorem cdiv_more (d f : Int) (h1 : 1 ≤ f) : (d - f + f - 1) / f = (d + f - 1) / f - 1 := by
  have e : d + f - 1 = (d - f + f - 1) + 1 * f := by omega
  rw [e, Int.add_mul_ediv_right _ _ (by omega)]; omega
theorem cdiv_pos (d f : Int) (h1 : 1 ≤ f) (h2 : 0 < d) : 1 ≤ (d + f - 1) / f := by
  have e : d + f - 1 = (d - 1) + 1 * f := by omega
  rw [e, Int.add_mul_ediv_right _ _ (by omega)]
  have := Int.ediv_nonneg (a := d - 1) (b := f) (by omega) (by omega)
  omega
theorem cdiv_le (d f : Int) (h1 : 4000 ≤ f) (h2 : 0 ≤ d) (h3 : d ≤ 262144) : 0 ≤ (d + f - 1) / f ∧ (d + f - 1) / f ≤ 67 := by
  refine ⟨Int.ediv_nonneg (by omega) (by omega), ?_⟩
  have : (d + f - 1) / f < 68 := Int.ediv_lt_of_lt_mul (by omega) (by omega)
  omega
theorem quanta_le (g h f r o want : Int) (hf : 4000 ≤ f) (hr : 4000 ≤ r) (hg : 0 ≤ g ∧ g ≤ 262144) (hh : 0 ≤ h ∧ h ≤ 5) (hw : 0 ≤ want ∧ want ≤ 262144) : 0 ≤ quantaI g h f r o want ∧ quantaI g h f r o want ≤ 200 := by
  unfold quantaI
  split
  · split
    · have := cdiv_le (g - want) f hf (by omega) (by omega); omega
    · have := cdiv_le (want - g) r hr (by omega) (by omega); omega
  · omega
theorem quanta_stay (g h f r o : Int) : quantaI g h f r o g = 0 := by unfold quantaI; simp
theorem quanta_zero (g h f r o want : Int) (hv : validE g h f r o = true) (hw : 0 ≤ want ∧ want ≤ 262144) (hq : quantaI g h f r o want = 0) : want = g := by
  have hv' := (validE_iff g h f r o).1 hv
  refine Classical.byContradiction fun hn => ?_
  unfold quantaI at hq
  rw [if_pos ⟨hv, hw.1, hw.2, hn⟩] at hq
  split at hq
  · have := cdiv_pos (g - want) f (by omega) (by omega); omega
  · have := cdiv_pos (want - g) r (by omega) (by omega); omega
theorem moves (g h f r o want k : Int) (hv : validE g h f r o = true) (hw : 0 ≤ want ∧ want ≤ 262144) (hq : quantaI g h f r o want = k) (hk : 0 < k) :
    want ≠ g ∧ quantaI (nextG g h f r o want) (nextH g h f r o want) f r o want = k - 1 ∧ nextG g h f r o want - g ≤ r ∧ g - nextG g h f r o want ≤ f ∧ (g < want → g ≤ nextG g h f r o want) ∧ (want < g → nextG g h f r o want < g) := by
  have hv' := (validE_iff g h f r o).1 hv
  have hn : want ≠ g := by intro e; rw [← e, quanta_stay] at hq; omega
  have hv2 := next_valid g h f r o want hv hw
  refine ⟨hn, ?_, ?_⟩
  · unfold quantaI at hq
    rw [if_pos ⟨hv, hw.1, hw.2, hn⟩] at hq
    by_cases c : want < g
    · rw [if_pos c] at hq
      by_cases c2 : g - f > want
      · have e : nextG g h f r o want = g - f := by unfold nextG; rw [if_pos c, if_pos c2]
        rw [e] at hv2 ⊢
        unfold quantaI
        rw [if_pos ⟨hv2, hw.1, hw.2, by omega⟩, if_pos (by omega)]
        have := cdiv_more (g - want) f (by omega)
        have e2 : g - f - want + f - 1 = g - want - f + f - 1 := by omega
        rw [e2]; omega
      · have e : nextG g h f r o want = want := by unfold nextG; rw [if_pos c, if_neg c2]
        rw [e, quanta_stay]
        have := cdiv_one (g - want) f (by omega) (by omega); omega
    · rw [if_neg c] at hq
      by_cases c3 : want > g ∧ h > 0
      · have e : nextG g h f r o want = g := by unfold nextG; rw [if_neg c, if_pos c3]
        have e' : nextH g h f r o want = h - 1 := by unfold nextH; rw [if_neg c, if_pos c3]
        rw [e, e'] at hv2 ⊢
        unfold quantaI
        rw [if_pos ⟨hv2, hw.1, hw.2, hn⟩, if_neg c]; omega
      · by_cases c2 : g + r < want
        · have e : nextG g h f r o want = g + r := by unfold nextG; rw [if_neg c, if_neg c3, if_pos (by omega), if_pos c2]
          have e' : nextH g h f r o want = h := by unfold nextH; rw [if_neg c, if_neg c3]
          rw [e, e'] at hv2 ⊢
          unfold quantaI
          rw [if_pos ⟨hv2, hw.1, hw.2, by omega⟩, if_neg (by omega)]
          have := cdiv_more (want - g) r (by omega)
          have e2 : want - (g + r) + r - 1 = want - g - r + r - 1 := by omega
          rw [e2]; omega
        · have e : nextG g h f r o want = want := by unfold nextG; rw [if_neg c, if_neg c3, if_pos (by omega), if_neg c2]
          rw [e, quanta_stay]
          have := cdiv_one (want - g) r (by omega) (by omega); omega
  · unfold nextG; omega
theorem step_ok (g h f r o want : Int) (w : World) (hv : validE g h f r o = true) (hw : 0 ≤ want ∧ want ≤ 262144) : Calls Try.prog 23 [.agg #[.int .i64 g, .int .i64 h], .agg #[.int .i64 f, .int .i64 r, .int .i64 o], .int .i64 want, .int .i64 16].toArray w (Val (.tuple #[.agg #[.int .i64 (nextG g h f r o want), .int .i64 (nextH g h f r o want)], .agg #[.int .i64 g, .int .i64 (nextG g h f r o want), .int .i64 16, .int .i64 0], .int .i64 0]) w) := by
  have := step_any g h f r o want 16 w
  rwa [stepV_3 g h f r o want 16 hv (by simp [inB]; omega)] at this
theorem step_stay (g h f r o want : Int) (w : World) (hv : validE g h f r o = true) (hw : 0 ≤ want ∧ want ≤ 262144) (he : want = g) : Calls Try.prog 23 [.agg #[.int .i64 g, .int .i64 h], .agg #[.int .i64 f, .int .i64 r, .int .i64 o], .int .i64 want, .int .i64 16].toArray w (Val (.tuple #[.agg #[.int .i64 g, .int .i64 h], .agg #[.int .i64 g, .int .i64 g, .int .i64 16, .int .i64 0], .int .i64 0]) w) := by
  have := step_ok g h f r o want w hv hw
  rwa [show nextG g h f r o want = g by unfold nextG; omega, show nextH g h f r o want = h by unfold nextH; omega] at this
def rampB (a b c d : Int) : Bool := inB a 0 262144 && inB b 0 262144 && inB c 0 4194304 && inB d 0 c
theorem valid_ok (g h f r o : Int) (w : World) (hv : validE g h f r o = true) : Calls Try.prog 21 [.agg #[.int .i64 g, .int .i64 h], .agg #[.int .i64 f, .int .i64 r, .int .i64 o]].toArray w (Val (.bool true) w) := by
  have := valid_any g h f r o w
  rwa [hv] at this

theorem gain_ref (x : Int) (w : World) : Calls Try.prog 57 [.int .i64 x].toArray w (Val (.bool (inB x 0 262144)) w) := by
  refine calls_body (n := 9) Try.func57 rfl rfl rfl (St.init _ []) ?_
  refine cd_seq ?_
  refine cd_region ?_
  refine at_pure (pv_assign rfl) rfl ?_
  refine at_nil ?_
  refine ex_go ?_
  refine cd_seq ?_
  refine cd_region ?_
  refine at_pure (pv_move rfl) rfl ?_
  refine at_pure (pv_geq rfl rfl) rfl ?_
  refine at_pure (pv_move rfl) rfl ?_
  refine at_split 5 rfl (fun hb1 => ?_) (fun hb1 => ?_)
  · skip
    refine at_pure_g rfl rfl hb1 (pv_move rfl) rfl ?_
    refine at_pure_g rfl rfl hb1 (pv_leq rfl rfl) rfl ?_
    refine at_pure (pv_pick_t rfl hb1 rfl) rfl ?_
    refine at_pure (pv_assign rfl) rfl ?_
    refine at_nil ?_
    refine ex_go ?_
    refine cd_ret ?_
    exact end_ret1 rfl rfl (fun w hs => ⟨by simp [inB, *], hs.keep⟩)
  · skip
    refine at_skip rfl rfl hb1 rfl ?_
    refine at_skip rfl rfl hb1 rfl ?_
    refine at_pure (pv_pick_f rfl hb1 rfl) rfl ?_
    refine at_pure (pv_assign rfl) rfl ?_
    refine at_nil ?_
    refine ex_go ?_
    refine cd_ret ?_
    exact end_ret1 rfl rfl (fun w hs => ⟨by simp [inB, *], hs.keep⟩)

theorem ramp_any (a b c d : Int) (w : World) : Calls Try.prog 27 [.agg #[.int .i64 a, .int .i64 b, .int .i64 c, .int .i64 d]].toArray w (Val (.bool (rampB a b c d)) w) := by
  refine calls_body (n := 33) Try.func27 rfl rfl rfl (St.init _ []) ?_
  refine cd_seq ?_
  refine cd_region ?_
  refine at_does (does_box rfl .agg (fun _ => .nil)) rfl (fun g1 => ?_)
  refine at_pure (pv_assign rfl) rfl ?_
  refine at_nil ?_
  refine ex_go ?_
  refine cd_seq ?_
  refine cd_region ?_
  refine at_pure (pv_field0 fa_45_0 rfl (r := 0) rfl) rfl ?_
  refine at_pure (by exact pv_load ld_3 rfl (box_cell .z .z)) rfl ?_
  refine at_does (does_val cal57 rfl rfl rfl (fun w hs => gain_ref _ w)) rfl (fun _ => ?_)
  refine at_pure (pv_move rfl) rfl ?_
  refine at_split 6 rfl (fun hb1 => ?_) (fun hb1 => ?_)
  · skip
    refine at_pure_g rfl rfl hb1 (pv_field0 fa_45_1 rfl (r := 1) rfl) rfl ?_
    refine at_pure_g rfl rfl hb1 (by exact pv_load ld_3 rfl (box_cell .z (.s .z))) rfl ?_
    refine at_does_g rfl rfl hb1 (does_val cal57 rfl rfl rfl (fun w hs => gain_ref _ w)) rfl (fun _ => ?_)
    refine at_pure (pv_pick_t rfl hb1 rfl) rfl ?_
    refine at_pure (pv_move rfl) rfl ?_
    refine at_split 11 rfl (fun hb2 => ?_) (fun hb2 => ?_)
    · skip
      refine at_pure_g rfl rfl hb2 (pv_field0 fa_45_2 rfl (r := 2) rfl) rfl ?_
      refine at_pure_g rfl rfl hb2 (by exact pv_load ld_3 rfl (box_cell .z (.s (.s .z)))) rfl ?_
      refine at_pure_g rfl rfl hb2 (pv_geq rfl rfl) rfl ?_
      refine at_pure (pv_pick_t rfl hb2 rfl) rfl ?_
      refine at_pure (pv_move rfl) rfl ?_
      refine at_split 16 rfl (fun hb3 => ?_) (fun hb3 => ?_)
      · skip
        refine at_pure_g rfl rfl hb3 (pv_field0 fa_45_2 rfl (r := 2) rfl) rfl ?_
        refine at_pure_g rfl rfl hb3 (by exact pv_load ld_3 rfl (box_cell .z (.s (.s .z)))) rfl ?_
        refine at_pure_g rfl rfl hb3 (pv_leq rfl rfl) rfl ?_
        refine at_pure (pv_pick_t rfl hb3 rfl) rfl ?_
        refine at_pure (pv_move rfl) rfl ?_
        refine at_split 21 rfl (fun hb4 => ?_) (fun hb4 => ?_)
        · skip
          refine at_pure_g rfl rfl hb4 (pv_field0 fa_45_3 rfl (r := 3) rfl) rfl ?_
          refine at_pure_g rfl rfl hb4 (by exact pv_load ld_3 rfl (box_cell .z (.s (.s (.s .z))))) rfl ?_
          refine at_pure_g rfl rfl hb4 (pv_geq rfl rfl) rfl ?_
          refine at_pure (pv_pick_t rfl hb4 rfl) rfl ?_
          refine at_pure (pv_move rfl) rfl ?_
          refine at_split 26 rfl (fun hb5 => ?_) (fun hb5 => ?_)
          · skip
            refine at_pure_g rfl rfl hb5 (pv_field0 fa_45_3 rfl (r := 3) rfl) rfl ?_
            refine at_pure_g rfl rfl hb5 (by exact pv_load ld_3 rfl (box_cell .z (.s (.s (.s .z))))) rfl ?_
            refine at_pure_g rfl rfl hb5 (pv_field0 fa_45_2 rfl (r := 2) rfl) rfl ?_
            refine at_pure_g rfl rfl hb5 (by exact pv_load ld_3 rfl (box_cell .z (.s (.s .z)))) rfl ?_
            refine at_pure_g rfl rfl hb5 (pv_leq rfl rfl) rfl ?_
            refine at_pure (pv_pick_t rfl hb5 rfl) rfl ?_
            refine at_pure (pv_assign rfl) rfl ?_
            refine at_nil ?_
            refine ex_go ?_
            refine cd_ret ?_
            exact end_ret1 rfl rfl (fun w hs => ⟨by clear hs; refine congrArg (fun b => Ending.returned (.bool b)) ?_; first | (simp_all [rampB, inB]; done) | (simp_all [rampB, inB]; omega), hs.keep⟩)
          · skip
            refine at_skip rfl rfl hb5 rfl ?_
            refine at_skip rfl rfl hb5 rfl ?_
            refine at_skip rfl rfl hb5 rfl ?_
            refine at_skip rfl rfl hb5 rfl ?_
            refine at_skip rfl rfl hb5 rfl ?_
            refine at_pure (pv_pick_f rfl hb5 rfl) rfl ?_
            refine at_pure (pv_assign rfl) rfl ?_
            refine at_nil ?_
            refine ex_go ?_
            refine cd_ret ?_
            exact end_ret1 rfl rfl (fun w hs => ⟨by clear hs; refine congrArg (fun b => Ending.returned (.bool b)) ?_; first | (simp_all [rampB, inB]; done) | (simp_all [rampB, inB]; omega), hs.keep⟩)
        · skip
          refine at_skip rfl rfl hb4 rfl ?_
          refine at_skip rfl rfl hb4 rfl ?_
          refine at_skip rfl rfl hb4 rfl ?_
          refine at_pure (pv_pick_f rfl hb4 rfl) rfl ?_
          refine at_pure (pv_move rfl) rfl ?_
          refine at_skip rfl rfl rfl rfl ?_
          refine at_skip rfl rfl rfl rfl ?_
          refine at_skip rfl rfl rfl rfl ?_
          refine at_skip rfl rfl rfl rfl ?_
          refine at_skip rfl rfl rfl rfl ?_
          refine at_pure (pv_pick_f rfl rfl rfl) rfl ?_
          refine at_pure (pv_assign rfl) rfl ?_
          refine at_nil ?_
          refine ex_go ?_
          refine cd_ret ?_
          exact end_ret1 rfl rfl (fun w hs => ⟨by clear hs; refine congrArg (fun b => Ending.returned (.bool b)) ?_; first | (simp_all [rampB, inB]; done) | (simp_all [rampB, inB]; omega), hs.keep⟩)
      · skip
        refine at_skip rfl rfl hb3 rfl ?_
        refine at_skip rfl rfl hb3 rfl ?_
        refine at_skip rfl rfl hb3 rfl ?_
        refine at_pure (pv_pick_f rfl hb3 rfl) rfl ?_
        refine at_pure (pv_move rfl) rfl ?_
        refine at_skip rfl rfl rfl rfl ?_
        refine at_skip rfl rfl rfl rfl ?_
        refine at_skip rfl rfl rfl rfl ?_
        refine at_pure (pv_pick_f rfl rfl rfl) rfl ?_
        refine at_pure (pv_move rfl) rfl ?_
        refine at_skip rfl rfl rfl rfl ?_
        refine at_skip rfl rfl rfl rfl ?_
        refine at_skip rfl rfl rfl rfl ?_
        refine at_skip rfl rfl rfl rfl ?_
        refine at_skip rfl rfl rfl rfl ?_
        refine at_pure (pv_pick_f rfl rfl rfl) rfl ?_
        refine at_pure (pv_assign rfl) rfl ?_
        refine at_nil ?_
        refine ex_go ?_
        refine cd_ret ?_
        exact end_ret1 rfl rfl (fun w hs => ⟨by clear hs; refine congrArg (fun b => Ending.returned (.bool b)) ?_; first | (simp_all [rampB, inB]; done) | (simp_all [rampB, inB]; omega), hs.keep⟩)
    · skip
      refine at_skip rfl rfl hb2 rfl ?_
      refine at_skip rfl rfl hb2 rfl ?_
      refine at_skip rfl rfl hb2 rfl ?_
      refine at_pure (pv_pick_f rfl hb2 rfl) rfl ?_
      refine at_pure (pv_move rfl) rfl ?_
      refine at_skip rfl rfl rfl rfl ?_
      refine at_skip rfl rfl rfl rfl ?_
      refine at_skip rfl rfl rfl rfl ?_
      refine at_pure (pv_pick_f rfl rfl rfl) rfl ?_
      refine at_pure (pv_move rfl) rfl ?_
      refine at_skip rfl rfl rfl rfl ?_
      refine at_skip rfl rfl rfl rfl ?_
      refine at_skip rfl rfl rfl rfl ?_
      refine at_pure (pv_pick_f rfl rfl rfl) rfl ?_
      refine at_pure (pv_move rfl) rfl ?_
      refine at_skip rfl rfl rfl rfl ?_
      refine at_skip rfl rfl rfl rfl ?_
      refine at_skip rfl rfl rfl rfl ?_
      refine at_skip rfl rfl rfl rfl ?_
      refine at_skip rfl rfl rfl rfl ?_
      refine at_pure (pv_pick_f rfl rfl rfl) rfl ?_
      refine at_pure (pv_assign rfl) rfl ?_
      refine at_nil ?_
      refine ex_go ?_
      refine cd_ret ?_
      exact end_ret1 rfl rfl (fun w hs => ⟨by clear hs; refine congrArg (fun b => Ending.returned (.bool b)) ?_; first | (simp_all [rampB, inB]; done) | (simp_all [rampB, inB]; omega), hs.keep⟩)
  · skip
    refine at_skip rfl rfl hb1 rfl ?_
    refine at_skip rfl rfl hb1 rfl ?_
    refine at_skip rfl rfl hb1 rfl ?_
    refine at_pure (pv_pick_f rfl hb1 rfl) rfl ?_
    refine at_pure (pv_move rfl) rfl ?_
    refine at_skip rfl rfl rfl rfl ?_
    refine at_skip rfl rfl rfl rfl ?_
    refine at_skip rfl rfl rfl rfl ?_
    refine at_pure (pv_pick_f rfl rfl rfl) rfl ?_
    refine at_pure (pv_move rfl) rfl ?_
    refine at_skip rfl rfl rfl rfl ?_
    refine at_skip rfl rfl rfl rfl ?_
    refine at_skip rfl rfl rfl rfl ?_
    refine at_pure (pv_pick_f rfl rfl rfl) rfl ?_
    refine at_pure (pv_move rfl) rfl ?_
    refine at_skip rfl rfl rfl rfl ?_
    refine at_skip rfl rfl rfl rfl ?_
    refine at_skip rfl rfl rfl rfl ?_
    refine at_pure (pv_pick_f rfl rfl rfl) rfl ?_
    refine at_pure (pv_move rfl) rfl ?_
    refine at_skip rfl rfl rfl rfl ?_
    refine at_skip rfl rfl rfl rfl ?_
    refine at_skip rfl rfl rfl rfl ?_
    refine at_skip rfl rfl rfl rfl ?_
    refine at_skip rfl rfl rfl rfl ?_
    refine at_pure (pv_pick_f rfl rfl rfl) rfl ?_
    refine at_pure (pv_assign rfl) rfl ?_
    refine at_nil ?_
    refine ex_go ?_
    refine cd_ret ?_
    exact end_ret1 rfl rfl (fun w hs => ⟨by clear hs; refine congrArg (fun b => Ending.returned (.bool b)) ?_; first | (simp_all [rampB, inB]; done) | (simp_all [rampB, inB]; omega), hs.keep⟩)

theorem ramp_ok (a b : Int) (w : World) (ha : 0 ≤ a ∧ a ≤ 262144) (hb : 0 ≤ b ∧ b ≤ 262144) : Calls Try.prog 27 [.agg #[.int .i64 a, .int .i64 b, .int .i64 16, .int .i64 0]].toArray w (Val (.bool true) w) := by
  have := ramp_any a b 16 0 w
  rwa [show rampB a b 16 0 = true by simp [rampB, inB]; omega] at this

set_option maxRecDepth 10000 in
set_option maxHeartbeats 1000000 in
theorem duckMoves_any (a : Option Addr) (len cap : Nat) (t : Int) (w : World) (hI : Ints [] w a len) (hl : len ≤ 17592186044416) : Calls Try.prog 7 [.slice a len cap, .int .i64 t].toArray w (Val (.bool true) w) := by
  refine calls_body (n := 155) Try.func7 rfl rfl rfl (St.init _ []) ?_
  refine cd_seq ?_
  refine cd_region ?_
  refine at_pure (pv_assign rfl) rfl ?_
  refine at_nil ?_
  refine ex_go ?_
  refine cd_seq ?_
  refine cd_seq ?_
  refine cd_region ?_
  refine at_does (does_val cal19 rfl rfl rfl (fun w hs => sane_duck w)) rfl (fun _ => ?_)
  refine at_pure (pv_not rfl) rfl ?_
  refine at_nil ?_
  refine ex_go ?_
  refine cd_else rfl rfl ?_
  refine cd_skip ?_
  refine ex_go ?_
  refine cd_seq ?_
  refine cd_region ?_
  refine at_pure (pv_move rfl) rfl ?_
  refine at_does (does_some cal20 rfl rfl rfl (fun w hs => made_any a len cap w (hI.keep hs.keep) hl)) rfl (fun z => ?_)
  obtain ⟨⟨e1, e2, e3, e4, e5⟩, hz⟩ := z
  unfold MadeOk at hz
  dsimp only at hz ⊢
  refine at_pure (pv_move rfl) rfl ?_
  refine at_pure (pv_extract rfl rfl) rfl ?_
  refine at_pure (pv_extract rfl rfl) rfl ?_
  refine at_does (does_alloc ze_38 .agg (fun _ => .nil)) rfl (fun g1 => ?_)
  refine at_does (does_alloc ze_40 .agg (fun _ => (.cons .nil))) rfl (fun g2 => ?_)
  refine at_turns (by exact turns_store sz_38 rfl rfl .agg rfl rfl .z (.rep (.rep .done)) .z) ?_
  refine at_turns (by exact turns_store sz_40 rfl rfl .agg rfl rfl (.s .z) (.rep (.rep (.rep .done))) (.s .z)) ?_
  refine at_nil ?_
  refine ex_go ?_
  refine cd_cut (σ := Int × Int) (fun _ => [(1, .int .i64 t), (5, Value.pointer (some ⟨g1, 0, none⟩)), (6, Value.pointer (some ⟨g2, 0, none⟩))]) (fun s => [Box g1 [.int .i64 e1, .int .i64 e2] 38, Box g2 [.int .i64 s.1, .int .i64 s.2, .int .i64 e5] 40]) (fun s => 4000 ≤ s.1 ∧ s.1 ≤ 262144 ∧ 4000 ≤ s.2 ∧ s.2 ≤ 262144) ?_ ?_
  · skip
    refine cd_region ?_
    refine at_pure (pv_field0 fa_40_0 rfl (r := 0) rfl) rfl ?_
    refine at_pure (by exact pv_load ld_3 rfl (box_cell (.s .z) .z)) rfl ?_
    refine at_pure (pv_max rfl rfl) rfl ?_
    refine at_pure (pv_field0 fa_40_1 rfl (r := 1) rfl) rfl ?_
    refine at_pure (by exact pv_load ld_3 rfl (box_cell (.s .z) (.s .z))) rfl ?_
    refine at_pure (pv_max rfl rfl) rfl ?_
    refine at_pure (pv_field0 fa_40_0 rfl (r := 0) rfl) rfl ?_
    refine at_turns (by exact turns_store sz_3 rfl rfl (.one rfl) rfl rfl (.s .z) (.rep .done) (.s .z)) ?_
    refine at_pure (pv_field0 fa_40_1 rfl (r := 1) rfl) rfl ?_
    refine at_turns (by exact turns_store sz_3 rfl rfl (.one rfl) rfl rfl (.s .z) (.skip (.rep .done)) (.s .z)) ?_
    refine at_nil ?_
    exact ex_meet (if 4000 > e3 then 4000 else e3, if 4000 > e4 then 4000 else e4) (by dsimp only; omega) ⟨rfl, rfl, rfl, trivial⟩ (List.Sublist.refl _)
  · rintro ⟨f, r⟩ ⟨hf1, hf2, hr1, hr2⟩
    refine cd_seq ?_
    refine cd_region ?_
    refine at_pure (pv_move rfl) rfl ?_
    refine at_does (does_val cal12 rfl rfl rfl (fun w hs => mod_any _ _ w (by decide))) rfl (fun _ => ?_)
    refine at_pure (pv_assign rfl) rfl ?_
    refine at_nil ?_
    refine ex_go ?_
    refine cd_seq ?_
    have hw : 0 ≤ t % 262145 ∧ t % 262145 ≤ 262144 := by omega
    generalize t % 262145 = want at hw ⊢
    refine cd_region ?_
    refine at_pure (by exact pv_loads_box ag_38 rfl .z (.take (.take .done))) rfl ?_
    refine at_pure (by exact pv_loads_box ag_40 rfl (.s .z) (.take (.take (.take .done)))) rfl ?_
    refine at_pure (pv_move rfl) rfl ?_
    refine at_does (does_val cal25 rfl rfl rfl (fun w hs => quanta_any _ _ _ _ _ _ w)) rfl (fun _ => ?_)
    refine at_pure (pv_assign rfl) rfl ?_
    refine at_nil ?_
    refine ex_go ?_
    refine cd_seq ?_
    refine cd_seq ?_
    have hv : validE e1 e2 f r e5 = true := by rw [validE_iff]; omega
    have hb := quanta_le e1 e2 f r e5 want hf1 hr1 (by omega) (by omega) hw
    generalize hq : quantaI e1 e2 f r e5 want = q at hb ⊢
    refine cd_region ?_
    refine at_pure (pv_move rfl) rfl ?_
    refine at_pure (pv_lss rfl rfl) rfl ?_
    refine at_pure (pv_move rfl) rfl ?_
    refine at_pure_g rfl rfl (decide_eq_false (by omega)) (pv_move rfl) rfl ?_
    refine at_pure_g rfl rfl (decide_eq_false (by omega)) (pv_gtr rfl rfl) rfl ?_
    refine at_pure (pv_pick_f rfl (decide_eq_false (by omega)) rfl) rfl ?_
    refine at_nil ?_
    refine ex_go ?_
    refine cd_else rfl (decide_eq_false (by omega)) ?_
    refine cd_skip ?_
    refine ex_go ?_
    refine cd_seq ?_
    refine cd_seq ?_
    refine cd_region ?_
    refine at_pure (pv_assign rfl) rfl ?_
    refine at_nil ?_
    refine ex_go ?_
    refine cd_block ?_
    refine cd_loop (σ := Int × Int × Int) (fun s => [(1, .int .i64 want), (5, Value.pointer (some ⟨g1, 0, none⟩)), (6, Value.pointer (some ⟨g2, 0, none⟩)), (7, .int .i64 q), (8, .int .i64 s.2.2)]) (fun s => [Box g1 [.int .i64 s.1, .int .i64 s.2.1] 38, Box g2 [.int .i64 f, .int .i64 r, .int .i64 e5] 40]) (fun s => validE s.1 s.2.1 f r e5 = true ∧ 0 ≤ s.2.2 ∧ quantaI s.1 s.2.1 f r e5 want = q - s.2.2) (fun s => (q - s.2.2).toNat) (e1, e2, 0) ⟨hv, by dsimp only; omega, by dsimp only; omega⟩ ⟨rfl, rfl, rfl, rfl, rfl, trivial⟩ (List.Sublist.refl _) ?_
    rintro ⟨g, h, i⟩ ⟨hv1, hi, hqi⟩
    dsimp only at hv1 hi hqi ⊢
    refine cd_seq ?_
    refine cd_seq ?_
    refine cd_region ?_
    refine at_pure (pv_move rfl) rfl ?_
    refine at_pure (pv_move rfl) rfl ?_
    refine at_pure (pv_lss rfl rfl) rfl ?_
    refine at_nil ?_
    refine ex_go ?_
    refine cd_if rfl (fun hl => ?_) (fun hl => ?_)
    · have hl' : i < q := by simpa using hl
      have hm := moves g h f r e5 want (q - i) hv1 hw hqi (by omega)
      have hv2 := next_valid g h f r e5 want hv1 hw
      have hb1 := (validE_iff g h f r e5).1 hv1
      have hb2 := (validE_iff _ _ f r e5).1 hv2
      refine cd_skip ?_
      refine ex_go ?_
      refine cd_seq ?_
      refine cd_block ?_
      refine cd_seq ?_
      refine cd_seq ?_
      refine cd_region ?_
      refine at_pure (pv_field0 fa_38_0 rfl (r := 0) rfl) rfl ?_
      refine at_pure (by exact pv_load ld_3 rfl (box_cell .z .z)) rfl ?_
      refine at_pure (pv_move rfl) rfl ?_
      refine at_pure (pv_eql rfl rfl) rfl ?_
      refine at_nil ?_
      refine ex_go ?_
      refine cd_else rfl (beq_eq_false_iff_ne.2 (by omega)) ?_
      refine cd_skip ?_
      refine ex_go ?_
      refine cd_seq ?_
      refine cd_region ?_
      refine at_pure (by exact pv_loads_box ag_38 rfl .z (.take (.take .done))) rfl ?_
      refine at_pure (by exact pv_loads_box ag_40 rfl (.s .z) (.take (.take (.take .done)))) rfl ?_
      refine at_pure (pv_move rfl) rfl ?_
      refine at_does (does_val cal23 rfl rfl rfl (fun w hs => step_ok g h f r e5 want w hv1 hw)) rfl (fun _ => ?_)
      refine at_pure (pv_move rfl) rfl ?_
      refine at_pure (pv_extract rfl rfl) rfl ?_
      refine at_pure (pv_extract rfl rfl) rfl ?_
      refine at_pure (pv_extract rfl rfl) rfl ?_
      refine at_does (does_alloc ze_38 .agg (fun _ => (.cons (.cons .nil)))) rfl (fun g3 => ?_)
      refine at_does (does_alloc ze_45 .agg (fun _ => (.cons (.cons (.cons .nil))))) rfl (fun g4 => ?_)
      refine at_turns (by exact turns_store sz_38 rfl rfl .agg rfl rfl (.s (.s .z)) (.rep (.rep .done)) (.s (.s .z))) ?_
      refine at_turns (by exact turns_store sz_45 rfl rfl .agg rfl rfl (.s (.s (.s .z))) (.rep (.rep (.rep (.rep .done)))) (.s (.s (.s .z)))) ?_
      refine at_pure (pv_assign rfl) rfl ?_
      refine at_nil ?_
      refine ex_go ?_
      refine cd_seq ?_
      refine cd_seq ?_
      refine cd_region ?_
      refine at_pure (pv_move rfl) rfl ?_
      refine at_pure (pv_neq_same rfl rfl) rfl ?_
      refine at_pure (pv_move rfl) rfl ?_
      refine at_pure_g rfl rfl rfl (pv_field0 fa_45_0 rfl (r := 0) rfl) rfl ?_
      refine at_pure_g rfl rfl rfl (by exact pv_load ld_3 rfl (box_cell (.s (.s (.s .z))) .z)) rfl ?_
      refine at_pure_g rfl rfl rfl (pv_field0 fa_38_0 rfl (r := 0) rfl) rfl ?_
      refine at_pure_g rfl rfl rfl (by exact pv_load ld_3 rfl (box_cell .z .z)) rfl ?_
      refine at_pure_g rfl rfl rfl (pv_neq_same rfl rfl) rfl ?_
      refine at_pure (pv_pick_f rfl rfl rfl) rfl ?_
      refine at_pure (pv_move rfl) rfl ?_
      refine at_pure_g rfl rfl rfl (pv_field0 fa_45_1 rfl (r := 1) rfl) rfl ?_
      refine at_pure_g rfl rfl rfl (by exact pv_load ld_3 rfl (box_cell (.s (.s (.s .z))) (.s .z))) rfl ?_
      refine at_pure_g rfl rfl rfl (pv_field0 fa_38_0 rfl (r := 0) rfl) rfl ?_
      refine at_pure_g rfl rfl rfl (by exact pv_load ld_3 rfl (box_cell (.s (.s .z)) .z)) rfl ?_
      refine at_pure_g rfl rfl rfl (pv_neq_same rfl rfl) rfl ?_
      refine at_pure (pv_pick_f rfl rfl rfl) rfl ?_
      refine at_pure (pv_move rfl) rfl ?_
      refine at_pure_g rfl rfl rfl (pv_field0 fa_45_3 rfl (r := 3) rfl) rfl ?_
      refine at_pure_g rfl rfl rfl (by exact pv_load ld_3 rfl (box_cell (.s (.s (.s .z))) (.s (.s (.s .z))))) rfl ?_
      refine at_pure_g rfl rfl rfl (pv_neq_same rfl rfl) rfl ?_
      refine at_pure (pv_pick_f rfl rfl rfl) rfl ?_
      refine at_pure (pv_move rfl) rfl ?_
      refine at_pure_g rfl rfl rfl (pv_field0 fa_45_2 rfl (r := 2) rfl) rfl ?_
      refine at_pure_g rfl rfl rfl (by exact pv_load ld_3 rfl (box_cell (.s (.s (.s .z))) (.s (.s .z)))) rfl ?_
      refine at_pure_g rfl rfl rfl (pv_neq_same rfl rfl) rfl ?_
      refine at_pure (pv_pick_f rfl rfl rfl) rfl ?_
      refine at_pure (pv_move rfl) rfl ?_
      refine at_pure_g rfl rfl rfl (by exact pv_loads_box ag_45 rfl (.s (.s (.s .z))) (.take (.take (.take (.take .done))))) rfl ?_
      refine at_does_g rfl rfl rfl (does_val cal27 rfl rfl rfl (fun w hs => ramp_ok g (nextG g h f r e5 want) w (by omega) (by omega))) rfl (fun _ => ?_)
      refine at_pure_g rfl rfl rfl (pv_not rfl) rfl ?_
      refine at_pure (pv_pick_f rfl rfl rfl) rfl ?_
      refine at_pure (pv_move rfl) rfl ?_
      refine at_pure_g rfl rfl rfl (by exact pv_loads_box ag_38 rfl (.s (.s .z)) (.take (.take .done))) rfl ?_
      refine at_pure_g rfl rfl rfl (by exact pv_loads_box ag_40 rfl (.s .z) (.take (.take (.take .done)))) rfl ?_
      refine at_does_g rfl rfl rfl (does_val cal21 rfl rfl rfl (fun w hs => valid_ok _ _ f r e5 w hv2)) rfl (fun _ => ?_)
      refine at_pure_g rfl rfl rfl (pv_not rfl) rfl ?_
      refine at_pure (pv_pick_f rfl rfl rfl) rfl ?_
      refine at_nil ?_
      refine ex_go ?_
      refine cd_else rfl rfl ?_
      refine cd_skip ?_
      refine ex_go ?_
      refine cd_seq ?_
      refine cd_region ?_
      refine at_pure (pv_field0 fa_38_0 rfl (r := 0) rfl) rfl ?_
      refine at_pure (by exact pv_load ld_3 rfl (box_cell (.s (.s .z)) .z)) rfl ?_
      refine at_pure (pv_field0 fa_38_0 rfl (r := 0) rfl) rfl ?_
      refine at_pure (by exact pv_load ld_3 rfl (box_cell .z .z)) rfl ?_
      refine at_pure (by first | exact pv_sub_n rfl rfl (by unfold In64; omega) | exact pv_sub rfl rfl) rfl ?_
      refine at_pure (pv_assign rfl) rfl ?_
      refine at_nil ?_
      refine ex_go ?_
      refine cd_seq ?_
      refine cd_seq ?_
      refine cd_region ?_
      refine at_pure (pv_move rfl) rfl ?_
      refine at_pure (pv_field0 fa_40_1 rfl (r := 1) rfl) rfl ?_
      refine at_pure (by exact pv_load ld_3 rfl (box_cell (.s .z) (.s .z))) rfl ?_
      refine at_pure (pv_gtr rfl rfl) rfl ?_
      refine at_pure (pv_move rfl) rfl ?_
      refine at_pure_g rfl rfl (decide_eq_false (by omega)) (pv_move rfl) rfl ?_
      refine at_pure_g rfl rfl (decide_eq_false (by omega)) (by first | exact pv_neg_n rfl (by unfold In64; omega) | exact pv_neg rfl) rfl ?_
      refine at_pure_g rfl rfl (decide_eq_false (by omega)) (pv_field0 fa_40_0 rfl (r := 0) rfl) rfl ?_
      refine at_pure_g rfl rfl (decide_eq_false (by omega)) (by exact pv_load ld_3 rfl (box_cell (.s .z) .z)) rfl ?_
      refine at_pure_g rfl rfl (decide_eq_false (by omega)) (pv_gtr rfl rfl) rfl ?_
      refine at_pure (pv_pick_f rfl (decide_eq_false (by omega)) rfl) rfl ?_
      refine at_pure (pv_move rfl) rfl ?_
      refine at_pure_g rfl rfl (decide_eq_false (by omega)) (pv_move rfl) rfl ?_
      refine at_pure_g rfl rfl (decide_eq_false (by omega)) (pv_field0 fa_38_0 rfl (r := 0) rfl) rfl ?_
      refine at_pure_g rfl rfl (decide_eq_false (by omega)) (by exact pv_load ld_3 rfl (box_cell .z .z)) rfl ?_
      refine at_pure_g rfl rfl (decide_eq_false (by omega)) (pv_gtr rfl rfl) rfl ?_
      refine at_pure_g rfl rfl (decide_eq_false (by omega)) (pv_move rfl) rfl ?_
      refine at_split 118 rfl (fun hb2 => ?_) (fun hb2 => ?_)
      · skip
        refine at_pure_g rfl rfl hb2 (pv_move rfl) rfl ?_
        refine at_pure_g rfl rfl hb2 (pv_lss rfl rfl) rfl ?_
        refine at_pure_g rfl rfl (decide_eq_false (by omega)) (pv_pick_t rfl hb2 rfl) rfl ?_
        refine at_pure (pv_pick_f rfl (decide_eq_false (by omega)) rfl) rfl ?_
        refine at_pure (pv_move rfl) rfl ?_
        refine at_pure_g rfl rfl (decide_eq_false (by simp only [decide_eq_true_eq] at *; omega)) (pv_move rfl) rfl ?_
        refine at_pure_g rfl rfl (decide_eq_false (by simp only [decide_eq_true_eq] at *; omega)) (pv_field0 fa_38_0 rfl (r := 0) rfl) rfl ?_
        refine at_pure_g rfl rfl (decide_eq_false (by simp only [decide_eq_true_eq] at *; omega)) (by exact pv_load ld_3 rfl (box_cell .z .z)) rfl ?_
        refine at_pure_g rfl rfl (decide_eq_false (by simp only [decide_eq_true_eq] at *; omega)) (pv_lss rfl rfl) rfl ?_
        refine at_pure_g rfl rfl (decide_eq_false (by simp only [decide_eq_true_eq] at *; omega)) (pv_move rfl) rfl ?_
        refine at_split 128 rfl (fun hb3 => ?_) (fun hb3 => ?_)
        · skip
          refine at_pure_g rfl rfl hb3 (pv_move rfl) rfl ?_
          refine at_pure_g rfl rfl hb3 (pv_geq rfl rfl) rfl ?_
          refine at_pure_g rfl rfl (decide_eq_false (by simp only [decide_eq_true_eq] at *; omega)) (pv_pick_t rfl hb3 rfl) rfl ?_
          refine at_pure (pv_pick_f rfl (decide_eq_false (by simp only [decide_eq_true_eq] at *; omega)) rfl) rfl ?_
          refine at_nil ?_
          refine ex_go ?_
          refine cd_else rfl (decide_eq_false (by simp only [decide_eq_true_eq, decide_eq_false_iff_not] at *; omega)) ?_
          refine cd_skip ?_
          refine ex_go ?_
          refine cd_region ?_
          refine at_pure (by exact pv_loads_box ag_38 rfl (.s (.s .z)) (.take (.take .done))) rfl ?_
          refine at_turns (by exact turns_store sz_38 rfl rfl .agg rfl rfl .z (.rep (.rep .done)) .z) ?_
          refine at_nil ?_
          refine ex_in_normal (ex_go ?_)
          refine cd_region ?_
          refine at_pure (pv_move rfl) rfl ?_
          refine at_pure (by first | exact pv_add_n rfl rfl (by unfold In64; omega) | exact pv_add rfl rfl) rfl ?_
          refine at_pure (pv_assign rfl) rfl ?_
          refine at_nil ?_
          exact ex_meet (nextG g h f r e5 want, nextH g h f r e5 want, i + 1) ⟨⟨hv2, by dsimp only; omega, by dsimp only; omega⟩, by dsimp only; omega⟩ ⟨rfl, rfl, rfl, rfl, rfl, trivial⟩ (by repeat first | exact List.nil_sublist _ | apply List.Sublist.cons_cons | apply List.Sublist.cons)
        · skip
          refine at_skip rfl rfl hb3 rfl ?_
          refine at_skip rfl rfl hb3 rfl ?_
          refine at_pure_g rfl rfl (decide_eq_false (by simp only [decide_eq_true_eq] at *; omega)) (pv_pick_f rfl hb3 rfl) rfl ?_
          refine at_pure (pv_pick_f rfl (decide_eq_false (by simp only [decide_eq_true_eq] at *; omega)) rfl) rfl ?_
          refine at_nil ?_
          refine ex_go ?_
          refine cd_else rfl rfl ?_
          refine cd_skip ?_
          refine ex_go ?_
          refine cd_region ?_
          refine at_pure (by exact pv_loads_box ag_38 rfl (.s (.s .z)) (.take (.take .done))) rfl ?_
          refine at_turns (by exact turns_store sz_38 rfl rfl .agg rfl rfl .z (.rep (.rep .done)) .z) ?_
          refine at_nil ?_
          refine ex_in_normal (ex_go ?_)
          refine cd_region ?_
          refine at_pure (pv_move rfl) rfl ?_
          refine at_pure (by first | exact pv_add_n rfl rfl (by unfold In64; omega) | exact pv_add rfl rfl) rfl ?_
          refine at_pure (pv_assign rfl) rfl ?_
          refine at_nil ?_
          exact ex_meet (nextG g h f r e5 want, nextH g h f r e5 want, i + 1) ⟨⟨hv2, by dsimp only; omega, by dsimp only; omega⟩, by dsimp only; omega⟩ ⟨rfl, rfl, rfl, rfl, rfl, trivial⟩ (by repeat first | exact List.nil_sublist _ | apply List.Sublist.cons_cons | apply List.Sublist.cons)
      · skip
        refine at_skip rfl rfl hb2 rfl ?_
        refine at_skip rfl rfl hb2 rfl ?_
        refine at_pure_g rfl rfl (decide_eq_false (by omega)) (pv_pick_f rfl hb2 rfl) rfl ?_
        refine at_pure (pv_pick_f rfl (decide_eq_false (by omega)) rfl) rfl ?_
        refine at_pure (pv_move rfl) rfl ?_
        refine at_pure_g rfl rfl rfl (pv_move rfl) rfl ?_
        refine at_pure_g rfl rfl rfl (pv_field0 fa_38_0 rfl (r := 0) rfl) rfl ?_
        refine at_pure_g rfl rfl rfl (by exact pv_load ld_3 rfl (box_cell .z .z)) rfl ?_
        refine at_pure_g rfl rfl rfl (pv_lss rfl rfl) rfl ?_
        refine at_pure_g rfl rfl rfl (pv_move rfl) rfl ?_
        refine at_split 128 rfl (fun hb4 => ?_) (fun hb4 => ?_)
        · skip
          refine at_pure_g rfl rfl hb4 (pv_move rfl) rfl ?_
          refine at_pure_g rfl rfl hb4 (pv_geq rfl rfl) rfl ?_
          refine at_pure_g rfl rfl rfl (pv_pick_t rfl hb4 rfl) rfl ?_
          refine at_pure (pv_pick_f rfl rfl rfl) rfl ?_
          refine at_nil ?_
          refine ex_go ?_
          refine cd_else rfl (decide_eq_false (by simp only [decide_eq_true_eq, decide_eq_false_iff_not] at *; omega)) ?_
          refine cd_skip ?_
          refine ex_go ?_
          refine cd_region ?_
          refine at_pure (by exact pv_loads_box ag_38 rfl (.s (.s .z)) (.take (.take .done))) rfl ?_
          refine at_turns (by exact turns_store sz_38 rfl rfl .agg rfl rfl .z (.rep (.rep .done)) .z) ?_
          refine at_nil ?_
          refine ex_in_normal (ex_go ?_)
          refine cd_region ?_
          refine at_pure (pv_move rfl) rfl ?_
          refine at_pure (by first | exact pv_add_n rfl rfl (by unfold In64; omega) | exact pv_add rfl rfl) rfl ?_
          refine at_pure (pv_assign rfl) rfl ?_
          refine at_nil ?_
          exact ex_meet (nextG g h f r e5 want, nextH g h f r e5 want, i + 1) ⟨⟨hv2, by dsimp only; omega, by dsimp only; omega⟩, by dsimp only; omega⟩ ⟨rfl, rfl, rfl, rfl, rfl, trivial⟩ (by repeat first | exact List.nil_sublist _ | apply List.Sublist.cons_cons | apply List.Sublist.cons)
        · skip
          refine at_skip rfl rfl hb4 rfl ?_
          refine at_skip rfl rfl hb4 rfl ?_
          refine at_pure_g rfl rfl rfl (pv_pick_f rfl hb4 rfl) rfl ?_
          refine at_pure (pv_pick_f rfl rfl rfl) rfl ?_
          refine at_nil ?_
          refine ex_go ?_
          refine cd_else rfl rfl ?_
          refine cd_skip ?_
          refine ex_go ?_
          refine cd_region ?_
          refine at_pure (by exact pv_loads_box ag_38 rfl (.s (.s .z)) (.take (.take .done))) rfl ?_
          refine at_turns (by exact turns_store sz_38 rfl rfl .agg rfl rfl .z (.rep (.rep .done)) .z) ?_
          refine at_nil ?_
          refine ex_in_normal (ex_go ?_)
          refine cd_region ?_
          refine at_pure (pv_move rfl) rfl ?_
          refine at_pure (by first | exact pv_add_n rfl rfl (by unfold In64; omega) | exact pv_add rfl rfl) rfl ?_
          refine at_pure (pv_assign rfl) rfl ?_
          refine at_nil ?_
          exact ex_meet (nextG g h f r e5 want, nextH g h f r e5 want, i + 1) ⟨⟨hv2, by dsimp only; omega, by dsimp only; omega⟩, by dsimp only; omega⟩ ⟨rfl, rfl, rfl, rfl, rfl, trivial⟩ (by repeat first | exact List.nil_sublist _ | apply List.Sublist.cons_cons | apply List.Sublist.cons)
    · have hl' : ¬ i < q := by simpa using hl
      have he : want = g := quanta_zero g h f r e5 want hv1 hw (by have := quanta_le g h f r e5 want hf1 hr1 (by have := (validE_iff g h f r e5).1 hv1; omega) (by have := (validE_iff g h f r e5).1 hv1; omega) hw; omega)
      refine cd_exit ?_
      refine ex_then_exit (ex_then_exit (ex_in (ex_go ?_)))
      refine cd_seq ?_
      refine cd_region ?_
      refine at_pure (by exact pv_loads_box ag_38 rfl .z (.take (.take .done))) rfl ?_
      refine at_pure (by exact pv_loads_box ag_40 rfl (.s .z) (.take (.take (.take .done)))) rfl ?_
      refine at_pure (pv_move rfl) rfl ?_
      refine at_does (does_val cal23 rfl rfl rfl (fun w hs => step_stay g h f r e5 want w hv1 hw he)) rfl (fun _ => ?_)
      refine at_pure (pv_move rfl) rfl ?_
      refine at_pure (pv_extract rfl rfl) rfl ?_
      refine at_pure (pv_extract rfl rfl) rfl ?_
      refine at_pure (pv_extract rfl rfl) rfl ?_
      refine at_does (does_alloc ze_38 .agg (fun _ => (.cons (.cons .nil)))) rfl (fun g5 => ?_)
      refine at_does (does_alloc ze_45 .agg (fun _ => (.cons (.cons (.cons .nil))))) rfl (fun g6 => ?_)
      refine at_turns (by exact turns_store sz_38 rfl rfl .agg rfl rfl (.s (.s .z)) (.rep (.rep .done)) (.s (.s .z))) ?_
      refine at_turns (by exact turns_store sz_45 rfl rfl .agg rfl rfl (.s (.s (.s .z))) (.rep (.rep (.rep (.rep .done)))) (.s (.s (.s .z)))) ?_
      refine at_pure (pv_assign rfl) rfl ?_
      refine at_nil ?_
      refine ex_go ?_
      refine cd_seq ?_
      refine cd_region ?_
      refine at_pure (pv_field0 fa_38_0 rfl (r := 0) rfl) rfl ?_
      refine at_pure (by exact pv_load ld_3 rfl (box_cell .z .z)) rfl ?_
      refine at_pure (pv_move rfl) rfl ?_
      refine at_pure (pv_eql rfl rfl) rfl ?_
      refine at_pure (pv_move rfl) rfl ?_
      refine at_pure_g rfl rfl (beq_iff_eq.2 he.symm) (pv_move rfl) rfl ?_
      refine at_pure_g rfl rfl (beq_iff_eq.2 he.symm) (pv_eql_same rfl rfl) rfl ?_
      refine at_pure (pv_pick_t rfl (beq_iff_eq.2 he.symm) rfl) rfl ?_
      refine at_pure (pv_move rfl) rfl ?_
      refine at_pure_g rfl rfl rfl (by exact pv_loads_box ag_38 rfl (.s (.s .z)) (.take (.take .done))) rfl ?_
      refine at_pure_g rfl rfl rfl (by exact pv_loads_box ag_38 rfl .z (.take (.take .done))) rfl ?_
      refine at_pure_g rfl rfl rfl (pv_eqls_same sb_38 rfl rfl rfl) rfl ?_
      refine at_pure (pv_pick_t rfl rfl rfl) rfl ?_
      refine at_pure (pv_assign rfl) rfl ?_
      refine at_nil ?_
      refine ex_go ?_
      refine cd_ret ?_
      exact end_ret1 rfl rfl (fun w hs => Val.mk hs)

end Go.Proofs.Ytaflnbnikabeaaa.Duck
