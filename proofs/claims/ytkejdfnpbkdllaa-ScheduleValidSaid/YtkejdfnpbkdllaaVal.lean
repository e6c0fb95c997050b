/- The schedule: Valid by the reference. -/
import Derived.Test.YtkejdfnpbkdllaaF25
import Derived.Test.YtkejdfnpbkdllaaValP
set_option linter.unusedVariables false
set_option linter.unusedSimpArgs false
set_option maxRecDepth 20000
namespace Go.Proofs.Ytkejdfnpbkdllaa
open Go Go.RowKit Go.Proofs.YtkejdfnpbkdllaaV
set_option maxRecDepth 10000 in
set_option maxHeartbeats 2000000 in
theorem validR (a b : Option Addr) (ca cb : Nat) (ns ls : List Q4) (c : Option Addr) (cc : Nat) (cs : List Int) (wk : Int) (d : Option Addr) (cd : Nat) (l : List Q4) (w : World) (hn : Sl [] enc4 4 w a ca ns) (hl : Sl [] enc4 4 w b cb ls) (hc : Sl [] enc1 1 w c cc cs) (hL : Sl [] enc4 4 w d cd l) : Calls Try.prog 16 [.agg #[.slice a ns.length ca, .slice b ls.length cb], .slice c cs.length cc, .int .i64 wk, .slice d l.length cd].toArray w (Val (.bool (schV ns ls cs wk l)) w) := by
  refine calls_body (n := 128) Try.func16 rfl rfl rfl (St.init _ []) ?_
  refine cd_seq ?_
  refine cd_region ?_
  refine at_does (does_box rfl .agg (fun _ => .nil)) rfl (fun g1 => ?_)
  refine at_pure (pv_assign rfl) rfl ?_
  refine at_nil ?_
  refine ex_go ?_
  refine cd_seq ?_
  refine cd_seq ?_
  refine cd_region ?_
  refine at_pure (by exact pv_loads_box ag_28 rfl .z (.take (.take .done))) rfl ?_
  refine at_pure (pv_move rfl) rfl ?_
  refine at_pure (pv_move rfl) rfl ?_
  refine at_does (does_val cal37 rfl rfl rfl (fun w hs => problem_ref a b ca cb ns ls c cc cs wk w (hn.at' hs) (hl.at' hs) (hc.at' hs))) rfl (fun _ => ?_)
  refine at_pure (pv_not rfl) rfl ?_
  refine at_pure (pv_move rfl) rfl ?_
  refine at_split 18 rfl (fun hb1 => ?_) (fun hb1 => ?_)
  · skip
    refine at_skip rfl rfl hb1 rfl ?_
    refine at_skip rfl rfl hb1 rfl ?_
    refine at_skip rfl rfl hb1 rfl ?_
    refine at_skip rfl rfl hb1 rfl ?_
    refine at_skip rfl rfl hb1 rfl ?_
    refine at_skip rfl rfl hb1 rfl ?_
    refine at_pure (pv_pick_t rfl hb1 rfl) rfl ?_
    refine at_nil ?_
    refine ex_go ?_
    refine cd_then rfl rfl ?_
    refine cd_seq ?_
    refine cd_region ?_
    refine at_pure (pv_assign rfl) rfl ?_
    refine at_nil ?_
    refine ex_go ?_
    refine cd_ret ?_
    refine ex_then_ret ?_
    exact end_ret1 rfl rfl (fun w hs => ⟨by clear hs; refine congrArg (fun b => Ending.returned (.bool b)) ?_; first | exact (schV_all hp (bne_f (by assumption)) (fun j hj => hq j (by simp only [decide_eq_false_iff_not] at *; omega))).symm | exact (schV_no1 (.inl (by simpa using hb1))).symm | exact (schV_no1 (.inr (bne_t hb2))).symm | exact (schV_no2 hkl (by rw [vAt_eq hz, hov2]; simp)).symm | exact (schV_no2 hkl (by rw [vAt_eq hz]; unfold vSlotB; simp only [Bool.and_true, Bool.true_and, Bool.and_false, Bool.false_and, Bool.or_true, Bool.true_or, Bool.or_false, Bool.false_or, Bool.not_true, Bool.not_false, *])).symm, hs.keep⟩)
  · skip
    refine at_pure_g rfl rfl hb1 (pv_move rfl) rfl ?_
    refine at_pure_g rfl rfl hb1 (pv_len Try.underlying23 rfl) rfl ?_
    refine at_pure_g rfl rfl hb1 (pv_field0 fa_28_0 rfl (r := 0) rfl) rfl ?_
    refine at_pure_g rfl rfl hb1 (by exact pv_load ld_25 rfl (box_cell .z .z)) rfl ?_
    refine at_pure_g rfl rfl hb1 (pv_len Try.underlying25 rfl) rfl ?_
    refine at_pure_g rfl rfl hb1 (pv_neq rfl rfl) rfl ?_
    refine at_pure (pv_pick_f rfl hb1 rfl) rfl ?_
    refine at_nil ?_
    refine ex_go ?_
    refine cd_if rfl (fun hb2 => ?_) (fun hb2 => ?_)
    · skip
      refine cd_seq ?_
      refine cd_region ?_
      refine at_pure (pv_assign rfl) rfl ?_
      refine at_nil ?_
      refine ex_go ?_
      refine cd_ret ?_
      refine ex_then_ret ?_
      exact end_ret1 rfl rfl (fun w hs => ⟨by clear hs; refine congrArg (fun b => Ending.returned (.bool b)) ?_; first | exact (schV_all hp (bne_f (by assumption)) (fun j hj => hq j (by simp only [decide_eq_false_iff_not] at *; omega))).symm | exact (schV_no1 (.inl (by simpa using hb1))).symm | exact (schV_no1 (.inr (bne_t hb2))).symm | exact (schV_no2 hkl (by rw [vAt_eq hz, hov2]; simp)).symm | exact (schV_no2 hkl (by rw [vAt_eq hz]; unfold vSlotB; simp only [Bool.and_true, Bool.true_and, Bool.and_false, Bool.false_and, Bool.or_true, Bool.true_or, Bool.or_false, Bool.false_or, Bool.not_true, Bool.not_false, *])).symm, hs.keep⟩)
    · skip
      refine cd_skip ?_
      refine ex_go ?_
      refine cd_seq ?_
      refine cd_seq ?_
      have hp : problemS ns ls cs wk = true := by simpa using hb1
      have hpo := prob_of hp
      have hlen : (l.length : Int) = ns.length := beq_iff_eq.1 (bne_f hb2)
      have hsm := hL.sm
      have hvf := valid_facts hpo.1
      refine cd_region ?_
      refine at_pure (pv_assign rfl) rfl ?_
      refine at_nil ?_
      refine ex_go ?_
      refine cd_block ?_
      refine cd_loop (σ := Nat) (fun s => [(1, .slice c cs.length cc), (2, .int .i64 wk), (3, .slice d l.length cd), (4, Value.pointer (some ⟨g1, 0, none⟩)), (9, .int .i64 (s : Int))]) (fun s => [Box g1 [.slice a ns.length ca, .slice b ls.length cb] 28]) (fun s => s ≤ l.length ∧ ∀ j, j < s → vAt ns ls cs wk l j = true) (fun s => l.length - s) 0 ⟨Nat.zero_le _, fun j hj => absurd hj (Nat.not_lt_zero j)⟩ ⟨rfl, rfl, rfl, rfl, rfl, trivial⟩ (by repeat first | exact sLn _ | apply sLc | apply sLd) ?_
      rintro k ⟨hk, hq⟩
      refine cd_seq ?_
      refine cd_seq ?_
      refine cd_region ?_
      refine at_pure (pv_move rfl) rfl ?_
      refine at_pure (pv_move rfl) rfl ?_
      refine at_pure (pv_len Try.underlying23 rfl) rfl ?_
      refine at_pure (pv_lss rfl rfl) rfl ?_
      refine at_nil ?_
      refine ex_go ?_
      refine cd_if rfl (fun hlt => ?_) (fun hlt => ?_)
      · skip
        refine cd_skip ?_
        refine ex_go ?_
        refine cd_seq ?_
        refine cd_block ?_
        refine cd_seq ?_
        have hkl : k < l.length := by simpa using hlt
        obtain ⟨z, hz⟩ := get_of hkl
        have hpl := place_lt ns z.1
        have hat : 0 ≤ placeI ns z.1 → cs[(placeI ns z.1).toNat]? = some (at1 cs (placeI ns z.1).toNat) := fun h => at1_get (by omega)
        refine cd_region ?_
        refine at_pure (pv_move rfl) rfl ?_
        refine at_pure (pv_move rfl) rfl ?_
        refine at_pure (pv_ix Try.underlying23 cz_39 rfl rfl (by first | omega | (simp only [decide_eq_true_eq, decide_eq_false_iff_not] at *; omega)) hL.real (k := k) (by omega)) rfl ?_
        refine at_pure (pv_elems ag_39 rfl (hL.gets hz) rfl) rfl ?_
        refine at_does (does_alloc ze_39 .agg (fun _ => (.cons .nil))) rfl (fun gz => ?_)
        refine at_turns (by exact turns_store sz_39 rfl rfl .agg rfl rfl (.s .z) (.rep (.rep (.rep (.rep .done)))) (.s .z)) ?_
        refine at_nil ?_
        refine ex_go ?_
        refine cd_seq ?_
        refine cd_region ?_
        refine at_pure (by exact pv_loads_box ag_28 rfl .z (.take (.take .done))) rfl ?_
        refine at_pure (pv_field0 fa_39_0 rfl (r := 0) rfl) rfl ?_
        refine at_pure (by exact pv_load ld_3 rfl (box_cell (.s .z) .z)) rfl ?_
        refine at_does (does_val cal42 rfl rfl rfl (fun w hs => place_25 a b ca cb ns ls _ w (hn.at' hs) (hl.at' hs))) rfl (fun _ => ?_)
        refine at_pure (pv_assign rfl) rfl ?_
        refine at_nil ?_
        refine ex_go ?_
        refine cd_seq ?_
        refine cd_seq ?_
        refine cd_draw' 55 follows ?_
        refine dr_take 0 rfl (by kernel_rfl) (.refl _) (pv_move rfl) rfl ?_
        refine dr_take 1 rfl (by kernel_rfl) (.refl _) (pv_lss rfl rfl) rfl ?_
        refine dr_take 2 rfl (by kernel_rfl) (.refl _) (pv_move rfl) rfl ?_
        refine dr_split 42 rfl (fun hb4 => ?_) (fun hb4 => ?_)
        · skip
          refine dr_skip 3 rfl rfl rfl hb4 (by kernel_rfl) (.refl _) rfl ?_
          refine dr_skip 4 rfl rfl rfl hb4 (by kernel_rfl) (.refl _) rfl ?_
          refine dr_skip 5 rfl rfl rfl hb4 (by kernel_rfl) (.refl _) rfl ?_
          refine dr_skip 6 rfl rfl rfl hb4 (by kernel_rfl) (.refl _) rfl ?_
          refine dr_skip 7 rfl rfl rfl hb4 (by kernel_rfl) (.refl _) rfl ?_
          refine dr_skip 8 rfl rfl rfl hb4 (by kernel_rfl) (.refl _) rfl ?_
          refine dr_take 9 rfl (by kernel_rfl) (.refl _) (pv_pick_t rfl hb4 rfl) rfl ?_
          refine dr_take 10 rfl (by kernel_rfl) (.refl _) (pv_move rfl) rfl ?_
          refine dr_skip 11 rfl rfl rfl rfl (by kernel_rfl) (.refl _) rfl ?_
          refine dr_skip 12 rfl rfl rfl rfl (by kernel_rfl) (.refl _) rfl ?_
          refine dr_skip 13 rfl rfl rfl rfl (by kernel_rfl) (.refl _) rfl ?_
          refine dr_take 14 rfl (by kernel_rfl) (.refl _) (pv_pick_t rfl rfl rfl) rfl ?_
          refine dr_take 15 rfl (by kernel_rfl) (.refl _) (pv_move rfl) rfl ?_
          refine dr_skip 16 rfl rfl rfl rfl (by kernel_rfl) (.refl _) rfl ?_
          refine dr_skip 17 rfl rfl rfl rfl (by kernel_rfl) (.refl _) rfl ?_
          refine dr_skip 18 rfl rfl rfl rfl (by kernel_rfl) (.refl _) rfl ?_
          refine dr_skip 19 rfl rfl rfl rfl (by kernel_rfl) (.refl _) rfl ?_
          refine dr_take 20 rfl (by kernel_rfl) (.refl _) (pv_pick_t rfl rfl rfl) rfl ?_
          refine dr_take 21 rfl (by kernel_rfl) (.refl _) (pv_move rfl) rfl ?_
          refine dr_skip 22 rfl rfl rfl rfl (by kernel_rfl) (.refl _) rfl ?_
          refine dr_skip 23 rfl rfl rfl rfl (by kernel_rfl) (.refl _) rfl ?_
          refine dr_skip 24 rfl rfl rfl rfl (by kernel_rfl) (.refl _) rfl ?_
          refine dr_take 25 rfl (by kernel_rfl) (.refl _) (pv_pick_t rfl rfl rfl) rfl ?_
          refine dr_take 26 rfl (by kernel_rfl) (.refl _) (pv_move rfl) rfl ?_
          refine dr_skip 27 rfl rfl rfl rfl (by kernel_rfl) (.refl _) rfl ?_
          refine dr_skip 28 rfl rfl rfl rfl (by kernel_rfl) (.refl _) rfl ?_
          refine dr_skip 29 rfl rfl rfl rfl (by kernel_rfl) (.refl _) rfl ?_
          refine dr_skip 30 rfl rfl rfl rfl (by kernel_rfl) (.refl _) rfl ?_
          refine dr_skip 31 rfl rfl rfl rfl (by kernel_rfl) (.refl _) rfl ?_
          refine dr_take 32 rfl (by kernel_rfl) (.refl _) (pv_pick_t rfl rfl rfl) rfl ?_
          refine dr_take 33 rfl (by kernel_rfl) (.refl _) (pv_move rfl) rfl ?_
          refine dr_skip 34 rfl rfl rfl rfl (by kernel_rfl) (.refl _) rfl ?_
          refine dr_skip 35 rfl rfl rfl rfl (by kernel_rfl) (.refl _) rfl ?_
          refine dr_skip 36 rfl rfl rfl rfl (by kernel_rfl) (.refl _) rfl ?_
          refine dr_skip 37 rfl rfl rfl rfl (by kernel_rfl) (.refl _) rfl ?_
          refine dr_skip 38 rfl rfl rfl rfl (by kernel_rfl) (.refl _) rfl ?_
          refine dr_skip 39 rfl rfl rfl rfl (by kernel_rfl) (.refl _) rfl ?_
          refine dr_skip 40 rfl rfl rfl rfl (by kernel_rfl) (.refl _) rfl ?_
          refine dr_skip 41 rfl rfl rfl rfl (by kernel_rfl) (.refl _) rfl ?_
          refine dr_skip 42 rfl rfl rfl rfl (by kernel_rfl) (.refl _) rfl ?_
          refine dr_skip 43 rfl rfl rfl rfl (by kernel_rfl) (.refl _) rfl ?_
          refine dr_take 44 rfl (by kernel_rfl) (.refl _) (pv_pick_t rfl rfl rfl) rfl ?_
          refine dr_take 45 rfl (by kernel_rfl) (.refl _) (pv_move rfl) rfl ?_
          refine dr_skip 46 rfl rfl rfl rfl (by kernel_rfl) (.refl _) rfl ?_
          refine dr_skip 47 rfl rfl rfl rfl (by kernel_rfl) (.refl _) rfl ?_
          refine dr_skip 48 rfl rfl rfl rfl (by kernel_rfl) (.refl _) rfl ?_
          refine dr_skip 49 rfl rfl rfl rfl (by kernel_rfl) (.refl _) rfl ?_
          refine dr_skip 50 rfl rfl rfl rfl (by kernel_rfl) (.refl _) rfl ?_
          refine dr_skip 51 rfl rfl rfl rfl (by kernel_rfl) (.refl _) rfl ?_
          refine dr_skip 52 rfl rfl rfl rfl (by kernel_rfl) (.refl _) rfl ?_
          refine dr_skip 53 rfl rfl rfl rfl (by kernel_rfl) (.refl _) rfl ?_
          refine dr_take 54 rfl (by kernel_rfl) (.refl _) (pv_pick_t rfl rfl rfl) rfl ?_
          refine dr_done (by kernel_rfl) ?_
          refine ex_go ?_
          refine cd_then rfl rfl ?_
          refine cd_seq ?_
          refine cd_region ?_
          refine at_pure (pv_assign rfl) rfl ?_
          refine at_nil ?_
          refine ex_go ?_
          refine cd_ret ?_
          refine ex_then_ret (ex_in_ret (ex_then_ret (ex_then_ret (ex_in_ret (ex_then_ret ?_)))))
          exact end_ret1 rfl rfl (fun w hs => ⟨by clear hs; refine congrArg (fun b => Ending.returned (.bool b)) ?_; first | exact (schV_all hp (bne_f (by assumption)) (fun j hj => hq j (by simp only [decide_eq_false_iff_not] at *; omega))).symm | exact (schV_no1 (.inl (by simpa using hb1))).symm | exact (schV_no1 (.inr (bne_t hb2))).symm | exact (schV_no2 hkl (by rw [vAt_eq hz, hov2]; simp)).symm | exact (schV_no2 hkl (by rw [vAt_eq hz]; unfold vSlotB; simp only [Bool.and_true, Bool.true_and, Bool.and_false, Bool.false_and, Bool.or_true, Bool.true_or, Bool.or_false, Bool.false_or, Bool.not_true, Bool.not_false, *])).symm, hs.keep⟩)
        · skip
          refine dr_take_g 3 rfl rfl rfl hb4 (by kernel_rfl) (.refl _) (pv_move rfl) rfl ?_
          refine dr_take_g 4 rfl rfl rfl hb4 (by kernel_rfl) (.refl _) (pv_field0 fa_39_0 rfl (r := 0) rfl) rfl ?_
          refine dr_take_g 5 rfl rfl rfl hb4 (by kernel_rfl) (.refl _) (by exact pv_load ld_3 rfl (box_cell (.s .z) .z)) rfl ?_
          refine dr_take_g 7 rfl rfl rfl hb4 (by kernel_rfl) (.refl _) (pv_move rfl) rfl ?_
          refine dr_one 6 (by kernel_rfl) rfl ?_
          refine at_does_g rfl rfl hb4 (does_val cal44 rfl rfl rfl (fun w hs => slot_ref d cd l _ w (hL.at' hs))) rfl (fun _ => ?_)
          refine at_nil (dr_next (fun _ => (.refl _)) ?_)
          refine dr_take_g 8 rfl rfl rfl hb4 (by kernel_rfl) (.refl _) (pv_neq rfl rfl) rfl ?_
          refine dr_take 9 rfl (by kernel_rfl) (.refl _) (pv_pick_f rfl hb4 rfl) rfl ?_
          refine dr_take 10 rfl (by kernel_rfl) (.refl _) (pv_move rfl) rfl ?_
          refine dr_split 50 rfl (fun hb5 => ?_) (fun hb5 => ?_)
          · skip
            refine dr_skip 11 rfl rfl rfl hb5 (by kernel_rfl) (.refl _) rfl ?_
            refine dr_skip 12 rfl rfl rfl hb5 (by kernel_rfl) (.refl _) rfl ?_
            refine dr_skip 13 rfl rfl rfl hb5 (by kernel_rfl) (.refl _) rfl ?_
            refine dr_take 14 rfl (by kernel_rfl) (.refl _) (pv_pick_t rfl hb5 rfl) rfl ?_
            refine dr_take 15 rfl (by kernel_rfl) (.refl _) (pv_move rfl) rfl ?_
            refine dr_skip 16 rfl rfl rfl rfl (by kernel_rfl) (.refl _) rfl ?_
            refine dr_skip 17 rfl rfl rfl rfl (by kernel_rfl) (.refl _) rfl ?_
            refine dr_skip 18 rfl rfl rfl rfl (by kernel_rfl) (.refl _) rfl ?_
            refine dr_skip 19 rfl rfl rfl rfl (by kernel_rfl) (.refl _) rfl ?_
            refine dr_take 20 rfl (by kernel_rfl) (.refl _) (pv_pick_t rfl rfl rfl) rfl ?_
            refine dr_take 21 rfl (by kernel_rfl) (.refl _) (pv_move rfl) rfl ?_
            refine dr_skip 22 rfl rfl rfl rfl (by kernel_rfl) (.refl _) rfl ?_
            refine dr_skip 23 rfl rfl rfl rfl (by kernel_rfl) (.refl _) rfl ?_
            refine dr_skip 24 rfl rfl rfl rfl (by kernel_rfl) (.refl _) rfl ?_
            refine dr_take 25 rfl (by kernel_rfl) (.refl _) (pv_pick_t rfl rfl rfl) rfl ?_
            refine dr_take 26 rfl (by kernel_rfl) (.refl _) (pv_move rfl) rfl ?_
            refine dr_skip 27 rfl rfl rfl rfl (by kernel_rfl) (.refl _) rfl ?_
            refine dr_skip 28 rfl rfl rfl rfl (by kernel_rfl) (.refl _) rfl ?_
            refine dr_skip 29 rfl rfl rfl rfl (by kernel_rfl) (.refl _) rfl ?_
            refine dr_skip 30 rfl rfl rfl rfl (by kernel_rfl) (.refl _) rfl ?_
            refine dr_skip 31 rfl rfl rfl rfl (by kernel_rfl) (.refl _) rfl ?_
            refine dr_take 32 rfl (by kernel_rfl) (.refl _) (pv_pick_t rfl rfl rfl) rfl ?_
            refine dr_take 33 rfl (by kernel_rfl) (.refl _) (pv_move rfl) rfl ?_
            refine dr_skip 34 rfl rfl rfl rfl (by kernel_rfl) (.refl _) rfl ?_
            refine dr_skip 35 rfl rfl rfl rfl (by kernel_rfl) (.refl _) rfl ?_
            refine dr_skip 36 rfl rfl rfl rfl (by kernel_rfl) (.refl _) rfl ?_
            refine dr_skip 37 rfl rfl rfl rfl (by kernel_rfl) (.refl _) rfl ?_
            refine dr_skip 38 rfl rfl rfl rfl (by kernel_rfl) (.refl _) rfl ?_
            refine dr_skip 39 rfl rfl rfl rfl (by kernel_rfl) (.refl _) rfl ?_
            refine dr_skip 40 rfl rfl rfl rfl (by kernel_rfl) (.refl _) rfl ?_
            refine dr_skip 41 rfl rfl rfl rfl (by kernel_rfl) (.refl _) rfl ?_
            refine dr_skip 42 rfl rfl rfl rfl (by kernel_rfl) (.refl _) rfl ?_
            refine dr_skip 43 rfl rfl rfl rfl (by kernel_rfl) (.refl _) rfl ?_
            refine dr_take 44 rfl (by kernel_rfl) (.refl _) (pv_pick_t rfl rfl rfl) rfl ?_
            refine dr_take 45 rfl (by kernel_rfl) (.refl _) (pv_move rfl) rfl ?_
            refine dr_skip 46 rfl rfl rfl rfl (by kernel_rfl) (.refl _) rfl ?_
            refine dr_skip 47 rfl rfl rfl rfl (by kernel_rfl) (.refl _) rfl ?_
            refine dr_skip 48 rfl rfl rfl rfl (by kernel_rfl) (.refl _) rfl ?_
            refine dr_skip 49 rfl rfl rfl rfl (by kernel_rfl) (.refl _) rfl ?_
            refine dr_skip 50 rfl rfl rfl rfl (by kernel_rfl) (.refl _) rfl ?_
            refine dr_skip 51 rfl rfl rfl rfl (by kernel_rfl) (.refl _) rfl ?_
            refine dr_skip 52 rfl rfl rfl rfl (by kernel_rfl) (.refl _) rfl ?_
            refine dr_skip 53 rfl rfl rfl rfl (by kernel_rfl) (.refl _) rfl ?_
            refine dr_take 54 rfl (by kernel_rfl) (.refl _) (pv_pick_t rfl rfl rfl) rfl ?_
            refine dr_done (by kernel_rfl) ?_
            refine ex_go ?_
            refine cd_then rfl rfl ?_
            refine cd_seq ?_
            refine cd_region ?_
            refine at_pure (pv_assign rfl) rfl ?_
            refine at_nil ?_
            refine ex_go ?_
            refine cd_ret ?_
            refine ex_then_ret (ex_in_ret (ex_then_ret (ex_then_ret (ex_in_ret (ex_then_ret ?_)))))
            exact end_ret1 rfl rfl (fun w hs => ⟨by clear hs; refine congrArg (fun b => Ending.returned (.bool b)) ?_; first | exact (schV_all hp (bne_f (by assumption)) (fun j hj => hq j (by simp only [decide_eq_false_iff_not] at *; omega))).symm | exact (schV_no1 (.inl (by simpa using hb1))).symm | exact (schV_no1 (.inr (bne_t hb2))).symm | exact (schV_no2 hkl (by rw [vAt_eq hz, hov2]; simp)).symm | exact (schV_no2 hkl (by rw [vAt_eq hz]; unfold vSlotB; simp only [Bool.and_true, Bool.true_and, Bool.and_false, Bool.false_and, Bool.or_true, Bool.true_or, Bool.or_false, Bool.false_or, Bool.not_true, Bool.not_false, *])).symm, hs.keep⟩)
          · skip
            refine dr_take_g 11 rfl rfl rfl hb5 (by kernel_rfl) (.refl _) (pv_field0 fa_39_1 rfl (r := 1) rfl) rfl ?_
            refine dr_take_g 12 rfl rfl rfl hb5 (by kernel_rfl) (.refl _) (by exact pv_load ld_3 rfl (box_cell (.s .z) (.s .z))) rfl ?_
            refine dr_take_g 13 rfl rfl rfl hb5 (by kernel_rfl) (.refl _) (pv_lss rfl rfl) rfl ?_
            refine dr_take 14 rfl (by kernel_rfl) (.refl _) (pv_pick_f rfl hb5 rfl) rfl ?_
            refine dr_take 15 rfl (by kernel_rfl) (.refl _) (pv_move rfl) rfl ?_
            refine dr_split 55 rfl (fun hb6 => ?_) (fun hb6 => ?_)
            · skip
              refine dr_skip 16 rfl rfl rfl hb6 (by kernel_rfl) (.refl _) rfl ?_
              refine dr_skip 17 rfl rfl rfl hb6 (by kernel_rfl) (.refl _) rfl ?_
              refine dr_skip 18 rfl rfl rfl hb6 (by kernel_rfl) (.refl _) rfl ?_
              refine dr_skip 19 rfl rfl rfl hb6 (by kernel_rfl) (.refl _) rfl ?_
              refine dr_take 20 rfl (by kernel_rfl) (.refl _) (pv_pick_t rfl hb6 rfl) rfl ?_
              refine dr_take 21 rfl (by kernel_rfl) (.refl _) (pv_move rfl) rfl ?_
              refine dr_skip 22 rfl rfl rfl rfl (by kernel_rfl) (.refl _) rfl ?_
              refine dr_skip 23 rfl rfl rfl rfl (by kernel_rfl) (.refl _) rfl ?_
              refine dr_skip 24 rfl rfl rfl rfl (by kernel_rfl) (.refl _) rfl ?_
              refine dr_take 25 rfl (by kernel_rfl) (.refl _) (pv_pick_t rfl rfl rfl) rfl ?_
              refine dr_take 26 rfl (by kernel_rfl) (.refl _) (pv_move rfl) rfl ?_
              refine dr_skip 27 rfl rfl rfl rfl (by kernel_rfl) (.refl _) rfl ?_
              refine dr_skip 28 rfl rfl rfl rfl (by kernel_rfl) (.refl _) rfl ?_
              refine dr_skip 29 rfl rfl rfl rfl (by kernel_rfl) (.refl _) rfl ?_
              refine dr_skip 30 rfl rfl rfl rfl (by kernel_rfl) (.refl _) rfl ?_
              refine dr_skip 31 rfl rfl rfl rfl (by kernel_rfl) (.refl _) rfl ?_
              refine dr_take 32 rfl (by kernel_rfl) (.refl _) (pv_pick_t rfl rfl rfl) rfl ?_
              refine dr_take 33 rfl (by kernel_rfl) (.refl _) (pv_move rfl) rfl ?_
              refine dr_skip 34 rfl rfl rfl rfl (by kernel_rfl) (.refl _) rfl ?_
              refine dr_skip 35 rfl rfl rfl rfl (by kernel_rfl) (.refl _) rfl ?_
              refine dr_skip 36 rfl rfl rfl rfl (by kernel_rfl) (.refl _) rfl ?_
              refine dr_skip 37 rfl rfl rfl rfl (by kernel_rfl) (.refl _) rfl ?_
              refine dr_skip 38 rfl rfl rfl rfl (by kernel_rfl) (.refl _) rfl ?_
              refine dr_skip 39 rfl rfl rfl rfl (by kernel_rfl) (.refl _) rfl ?_
              refine dr_skip 40 rfl rfl rfl rfl (by kernel_rfl) (.refl _) rfl ?_
              refine dr_skip 41 rfl rfl rfl rfl (by kernel_rfl) (.refl _) rfl ?_
              refine dr_skip 42 rfl rfl rfl rfl (by kernel_rfl) (.refl _) rfl ?_
              refine dr_skip 43 rfl rfl rfl rfl (by kernel_rfl) (.refl _) rfl ?_
              refine dr_take 44 rfl (by kernel_rfl) (.refl _) (pv_pick_t rfl rfl rfl) rfl ?_
              refine dr_take 45 rfl (by kernel_rfl) (.refl _) (pv_move rfl) rfl ?_
              refine dr_skip 46 rfl rfl rfl rfl (by kernel_rfl) (.refl _) rfl ?_
              refine dr_skip 47 rfl rfl rfl rfl (by kernel_rfl) (.refl _) rfl ?_
              refine dr_skip 48 rfl rfl rfl rfl (by kernel_rfl) (.refl _) rfl ?_
              refine dr_skip 49 rfl rfl rfl rfl (by kernel_rfl) (.refl _) rfl ?_
              refine dr_skip 50 rfl rfl rfl rfl (by kernel_rfl) (.refl _) rfl ?_
              refine dr_skip 51 rfl rfl rfl rfl (by kernel_rfl) (.refl _) rfl ?_
              refine dr_skip 52 rfl rfl rfl rfl (by kernel_rfl) (.refl _) rfl ?_
              refine dr_skip 53 rfl rfl rfl rfl (by kernel_rfl) (.refl _) rfl ?_
              refine dr_take 54 rfl (by kernel_rfl) (.refl _) (pv_pick_t rfl rfl rfl) rfl ?_
              refine dr_done (by kernel_rfl) ?_
              refine ex_go ?_
              refine cd_then rfl rfl ?_
              refine cd_seq ?_
              refine cd_region ?_
              refine at_pure (pv_assign rfl) rfl ?_
              refine at_nil ?_
              refine ex_go ?_
              refine cd_ret ?_
              refine ex_then_ret (ex_in_ret (ex_then_ret (ex_then_ret (ex_in_ret (ex_then_ret ?_)))))
              exact end_ret1 rfl rfl (fun w hs => ⟨by clear hs; refine congrArg (fun b => Ending.returned (.bool b)) ?_; first | exact (schV_all hp (bne_f (by assumption)) (fun j hj => hq j (by simp only [decide_eq_false_iff_not] at *; omega))).symm | exact (schV_no1 (.inl (by simpa using hb1))).symm | exact (schV_no1 (.inr (bne_t hb2))).symm | exact (schV_no2 hkl (by rw [vAt_eq hz, hov2]; simp)).symm | exact (schV_no2 hkl (by rw [vAt_eq hz]; unfold vSlotB; simp only [Bool.and_true, Bool.true_and, Bool.and_false, Bool.false_and, Bool.or_true, Bool.true_or, Bool.or_false, Bool.false_or, Bool.not_true, Bool.not_false, *])).symm, hs.keep⟩)
            · skip
              refine dr_take_g 16 rfl rfl rfl hb6 (by kernel_rfl) (.refl _) (pv_field0 fa_39_1 rfl (r := 1) rfl) rfl ?_
              refine dr_take_g 17 rfl rfl rfl hb6 (by kernel_rfl) (.refl _) (by exact pv_load ld_3 rfl (box_cell (.s .z) (.s .z))) rfl ?_
              refine dr_take_g 18 rfl rfl rfl hb6 (by kernel_rfl) (.refl _) (pv_move rfl) rfl ?_
              refine dr_take_g 19 rfl rfl rfl hb6 (by kernel_rfl) (.refl _) (pv_geq rfl rfl) rfl ?_
              refine dr_take 20 rfl (by kernel_rfl) (.refl _) (pv_pick_f rfl hb6 rfl) rfl ?_
              refine dr_take 21 rfl (by kernel_rfl) (.refl _) (pv_move rfl) rfl ?_
              refine dr_split 61 rfl (fun hb7 => ?_) (fun hb7 => ?_)
              · skip
                refine dr_skip 22 rfl rfl rfl hb7 (by kernel_rfl) (.refl _) rfl ?_
                refine dr_skip 23 rfl rfl rfl hb7 (by kernel_rfl) (.refl _) rfl ?_
                refine dr_skip 24 rfl rfl rfl hb7 (by kernel_rfl) (.refl _) rfl ?_
                refine dr_take 25 rfl (by kernel_rfl) (.refl _) (pv_pick_t rfl hb7 rfl) rfl ?_
                refine dr_take 26 rfl (by kernel_rfl) (.refl _) (pv_move rfl) rfl ?_
                refine dr_skip 27 rfl rfl rfl rfl (by kernel_rfl) (.refl _) rfl ?_
                refine dr_skip 28 rfl rfl rfl rfl (by kernel_rfl) (.refl _) rfl ?_
                refine dr_skip 29 rfl rfl rfl rfl (by kernel_rfl) (.refl _) rfl ?_
                refine dr_skip 30 rfl rfl rfl rfl (by kernel_rfl) (.refl _) rfl ?_
                refine dr_skip 31 rfl rfl rfl rfl (by kernel_rfl) (.refl _) rfl ?_
                refine dr_take 32 rfl (by kernel_rfl) (.refl _) (pv_pick_t rfl rfl rfl) rfl ?_
                refine dr_take 33 rfl (by kernel_rfl) (.refl _) (pv_move rfl) rfl ?_
                refine dr_skip 34 rfl rfl rfl rfl (by kernel_rfl) (.refl _) rfl ?_
                refine dr_skip 35 rfl rfl rfl rfl (by kernel_rfl) (.refl _) rfl ?_
                refine dr_skip 36 rfl rfl rfl rfl (by kernel_rfl) (.refl _) rfl ?_
                refine dr_skip 37 rfl rfl rfl rfl (by kernel_rfl) (.refl _) rfl ?_
                refine dr_skip 38 rfl rfl rfl rfl (by kernel_rfl) (.refl _) rfl ?_
                refine dr_skip 39 rfl rfl rfl rfl (by kernel_rfl) (.refl _) rfl ?_
                refine dr_skip 40 rfl rfl rfl rfl (by kernel_rfl) (.refl _) rfl ?_
                refine dr_skip 41 rfl rfl rfl rfl (by kernel_rfl) (.refl _) rfl ?_
                refine dr_skip 42 rfl rfl rfl rfl (by kernel_rfl) (.refl _) rfl ?_
                refine dr_skip 43 rfl rfl rfl rfl (by kernel_rfl) (.refl _) rfl ?_
                refine dr_take 44 rfl (by kernel_rfl) (.refl _) (pv_pick_t rfl rfl rfl) rfl ?_
                refine dr_take 45 rfl (by kernel_rfl) (.refl _) (pv_move rfl) rfl ?_
                refine dr_skip 46 rfl rfl rfl rfl (by kernel_rfl) (.refl _) rfl ?_
                refine dr_skip 47 rfl rfl rfl rfl (by kernel_rfl) (.refl _) rfl ?_
                refine dr_skip 48 rfl rfl rfl rfl (by kernel_rfl) (.refl _) rfl ?_
                refine dr_skip 49 rfl rfl rfl rfl (by kernel_rfl) (.refl _) rfl ?_
                refine dr_skip 50 rfl rfl rfl rfl (by kernel_rfl) (.refl _) rfl ?_
                refine dr_skip 51 rfl rfl rfl rfl (by kernel_rfl) (.refl _) rfl ?_
                refine dr_skip 52 rfl rfl rfl rfl (by kernel_rfl) (.refl _) rfl ?_
                refine dr_skip 53 rfl rfl rfl rfl (by kernel_rfl) (.refl _) rfl ?_
                refine dr_take 54 rfl (by kernel_rfl) (.refl _) (pv_pick_t rfl rfl rfl) rfl ?_
                refine dr_done (by kernel_rfl) ?_
                refine ex_go ?_
                refine cd_then rfl rfl ?_
                refine cd_seq ?_
                refine cd_region ?_
                refine at_pure (pv_assign rfl) rfl ?_
                refine at_nil ?_
                refine ex_go ?_
                refine cd_ret ?_
                refine ex_then_ret (ex_in_ret (ex_then_ret (ex_then_ret (ex_in_ret (ex_then_ret ?_)))))
                exact end_ret1 rfl rfl (fun w hs => ⟨by clear hs; refine congrArg (fun b => Ending.returned (.bool b)) ?_; first | exact (schV_all hp (bne_f (by assumption)) (fun j hj => hq j (by simp only [decide_eq_false_iff_not] at *; omega))).symm | exact (schV_no1 (.inl (by simpa using hb1))).symm | exact (schV_no1 (.inr (bne_t hb2))).symm | exact (schV_no2 hkl (by rw [vAt_eq hz, hov2]; simp)).symm | exact (schV_no2 hkl (by rw [vAt_eq hz]; unfold vSlotB; simp only [Bool.and_true, Bool.true_and, Bool.and_false, Bool.false_and, Bool.or_true, Bool.true_or, Bool.or_false, Bool.false_or, Bool.not_true, Bool.not_false, *])).symm, hs.keep⟩)
              · skip
                refine dr_take_g 22 rfl rfl rfl hb7 (by kernel_rfl) (.refl _) (pv_field0 fa_39_2 rfl (r := 2) rfl) rfl ?_
                refine dr_take_g 23 rfl rfl rfl hb7 (by kernel_rfl) (.refl _) (by exact pv_load ld_3 rfl (box_cell (.s .z) (.s (.s .z)))) rfl ?_
                refine dr_take_g 24 rfl rfl rfl hb7 (by kernel_rfl) (.refl _) (pv_lss rfl rfl) rfl ?_
                refine dr_take 25 rfl (by kernel_rfl) (.refl _) (pv_pick_f rfl hb7 rfl) rfl ?_
                refine dr_take 26 rfl (by kernel_rfl) (.refl _) (pv_move rfl) rfl ?_
                refine dr_split 66 rfl (fun hb8 => ?_) (fun hb8 => ?_)
                · skip
                  refine dr_skip 27 rfl rfl rfl hb8 (by kernel_rfl) (.refl _) rfl ?_
                  refine dr_skip 28 rfl rfl rfl hb8 (by kernel_rfl) (.refl _) rfl ?_
                  refine dr_skip 29 rfl rfl rfl hb8 (by kernel_rfl) (.refl _) rfl ?_
                  refine dr_skip 30 rfl rfl rfl hb8 (by kernel_rfl) (.refl _) rfl ?_
                  refine dr_skip 31 rfl rfl rfl hb8 (by kernel_rfl) (.refl _) rfl ?_
                  refine dr_take 32 rfl (by kernel_rfl) (.refl _) (pv_pick_t rfl hb8 rfl) rfl ?_
                  refine dr_take 33 rfl (by kernel_rfl) (.refl _) (pv_move rfl) rfl ?_
                  refine dr_skip 34 rfl rfl rfl rfl (by kernel_rfl) (.refl _) rfl ?_
                  refine dr_skip 35 rfl rfl rfl rfl (by kernel_rfl) (.refl _) rfl ?_
                  refine dr_skip 36 rfl rfl rfl rfl (by kernel_rfl) (.refl _) rfl ?_
                  refine dr_skip 37 rfl rfl rfl rfl (by kernel_rfl) (.refl _) rfl ?_
                  refine dr_skip 38 rfl rfl rfl rfl (by kernel_rfl) (.refl _) rfl ?_
                  refine dr_skip 39 rfl rfl rfl rfl (by kernel_rfl) (.refl _) rfl ?_
                  refine dr_skip 40 rfl rfl rfl rfl (by kernel_rfl) (.refl _) rfl ?_
                  refine dr_skip 41 rfl rfl rfl rfl (by kernel_rfl) (.refl _) rfl ?_
                  refine dr_skip 42 rfl rfl rfl rfl (by kernel_rfl) (.refl _) rfl ?_
                  refine dr_skip 43 rfl rfl rfl rfl (by kernel_rfl) (.refl _) rfl ?_
                  refine dr_take 44 rfl (by kernel_rfl) (.refl _) (pv_pick_t rfl rfl rfl) rfl ?_
                  refine dr_take 45 rfl (by kernel_rfl) (.refl _) (pv_move rfl) rfl ?_
                  refine dr_skip 46 rfl rfl rfl rfl (by kernel_rfl) (.refl _) rfl ?_
                  refine dr_skip 47 rfl rfl rfl rfl (by kernel_rfl) (.refl _) rfl ?_
                  refine dr_skip 48 rfl rfl rfl rfl (by kernel_rfl) (.refl _) rfl ?_
                  refine dr_skip 49 rfl rfl rfl rfl (by kernel_rfl) (.refl _) rfl ?_
                  refine dr_skip 50 rfl rfl rfl rfl (by kernel_rfl) (.refl _) rfl ?_
                  refine dr_skip 51 rfl rfl rfl rfl (by kernel_rfl) (.refl _) rfl ?_
                  refine dr_skip 52 rfl rfl rfl rfl (by kernel_rfl) (.refl _) rfl ?_
                  refine dr_skip 53 rfl rfl rfl rfl (by kernel_rfl) (.refl _) rfl ?_
                  refine dr_take 54 rfl (by kernel_rfl) (.refl _) (pv_pick_t rfl rfl rfl) rfl ?_
                  refine dr_done (by kernel_rfl) ?_
                  refine ex_go ?_
                  refine cd_then rfl rfl ?_
                  refine cd_seq ?_
                  refine cd_region ?_
                  refine at_pure (pv_assign rfl) rfl ?_
                  refine at_nil ?_
                  refine ex_go ?_
                  refine cd_ret ?_
                  refine ex_then_ret (ex_in_ret (ex_then_ret (ex_then_ret (ex_in_ret (ex_then_ret ?_)))))
                  exact end_ret1 rfl rfl (fun w hs => ⟨by clear hs; refine congrArg (fun b => Ending.returned (.bool b)) ?_; first | exact (schV_all hp (bne_f (by assumption)) (fun j hj => hq j (by simp only [decide_eq_false_iff_not] at *; omega))).symm | exact (schV_no1 (.inl (by simpa using hb1))).symm | exact (schV_no1 (.inr (bne_t hb2))).symm | exact (schV_no2 hkl (by rw [vAt_eq hz, hov2]; simp)).symm | exact (schV_no2 hkl (by rw [vAt_eq hz]; unfold vSlotB; simp only [Bool.and_true, Bool.true_and, Bool.and_false, Bool.false_and, Bool.or_true, Bool.true_or, Bool.or_false, Bool.false_or, Bool.not_true, Bool.not_false, *])).symm, hs.keep⟩)
                · skip
                  refine dr_take_g 27 rfl rfl rfl hb8 (by kernel_rfl) (.refl _) (pv_field0 fa_39_3 rfl (r := 3) rfl) rfl ?_
                  refine dr_take_g 28 rfl rfl rfl hb8 (by kernel_rfl) (.refl _) (by exact pv_load ld_3 rfl (box_cell (.s .z) (.s (.s (.s .z))))) rfl ?_
                  refine dr_take_g 29 rfl rfl rfl hb8 (by kernel_rfl) (.refl _) (pv_field0 fa_39_2 rfl (r := 2) rfl) rfl ?_
                  refine dr_take_g 30 rfl rfl rfl hb8 (by kernel_rfl) (.refl _) (by exact pv_load ld_3 rfl (box_cell (.s .z) (.s (.s .z)))) rfl ?_
                  refine dr_take_g 31 rfl rfl rfl hb8 (by kernel_rfl) (.refl _) (pv_lss rfl rfl) rfl ?_
                  refine dr_take 32 rfl (by kernel_rfl) (.refl _) (pv_pick_f rfl hb8 rfl) rfl ?_
                  refine dr_take 33 rfl (by kernel_rfl) (.refl _) (pv_move rfl) rfl ?_
                  refine dr_split 73 rfl (fun hb9 => ?_) (fun hb9 => ?_)
                  · skip
                    refine dr_skip 34 rfl rfl rfl hb9 (by kernel_rfl) (.refl _) rfl ?_
                    refine dr_skip 35 rfl rfl rfl hb9 (by kernel_rfl) (.refl _) rfl ?_
                    refine dr_skip 36 rfl rfl rfl hb9 (by kernel_rfl) (.refl _) rfl ?_
                    refine dr_skip 37 rfl rfl rfl hb9 (by kernel_rfl) (.refl _) rfl ?_
                    refine dr_skip 38 rfl rfl rfl hb9 (by kernel_rfl) (.refl _) rfl ?_
                    refine dr_skip 39 rfl rfl rfl hb9 (by kernel_rfl) (.refl _) rfl ?_
                    refine dr_skip 40 rfl rfl rfl hb9 (by kernel_rfl) (.refl _) rfl ?_
                    refine dr_skip 41 rfl rfl rfl hb9 (by kernel_rfl) (.refl _) rfl ?_
                    refine dr_skip 42 rfl rfl rfl hb9 (by kernel_rfl) (.refl _) rfl ?_
                    refine dr_skip 43 rfl rfl rfl hb9 (by kernel_rfl) (.refl _) rfl ?_
                    refine dr_take 44 rfl (by kernel_rfl) (.refl _) (pv_pick_t rfl hb9 rfl) rfl ?_
                    refine dr_take 45 rfl (by kernel_rfl) (.refl _) (pv_move rfl) rfl ?_
                    refine dr_skip 46 rfl rfl rfl rfl (by kernel_rfl) (.refl _) rfl ?_
                    refine dr_skip 47 rfl rfl rfl rfl (by kernel_rfl) (.refl _) rfl ?_
                    refine dr_skip 48 rfl rfl rfl rfl (by kernel_rfl) (.refl _) rfl ?_
                    refine dr_skip 49 rfl rfl rfl rfl (by kernel_rfl) (.refl _) rfl ?_
                    refine dr_skip 50 rfl rfl rfl rfl (by kernel_rfl) (.refl _) rfl ?_
                    refine dr_skip 51 rfl rfl rfl rfl (by kernel_rfl) (.refl _) rfl ?_
                    refine dr_skip 52 rfl rfl rfl rfl (by kernel_rfl) (.refl _) rfl ?_
                    refine dr_skip 53 rfl rfl rfl rfl (by kernel_rfl) (.refl _) rfl ?_
                    refine dr_take 54 rfl (by kernel_rfl) (.refl _) (pv_pick_t rfl rfl rfl) rfl ?_
                    refine dr_done (by kernel_rfl) ?_
                    refine ex_go ?_
                    refine cd_then rfl rfl ?_
                    refine cd_seq ?_
                    refine cd_region ?_
                    refine at_pure (pv_assign rfl) rfl ?_
                    refine at_nil ?_
                    refine ex_go ?_
                    refine cd_ret ?_
                    refine ex_then_ret (ex_in_ret (ex_then_ret (ex_then_ret (ex_in_ret (ex_then_ret ?_)))))
                    exact end_ret1 rfl rfl (fun w hs => ⟨by clear hs; refine congrArg (fun b => Ending.returned (.bool b)) ?_; first | exact (schV_all hp (bne_f (by assumption)) (fun j hj => hq j (by simp only [decide_eq_false_iff_not] at *; omega))).symm | exact (schV_no1 (.inl (by simpa using hb1))).symm | exact (schV_no1 (.inr (bne_t hb2))).symm | exact (schV_no2 hkl (by rw [vAt_eq hz, hov2]; simp)).symm | exact (schV_no2 hkl (by rw [vAt_eq hz]; unfold vSlotB; simp only [Bool.and_true, Bool.true_and, Bool.and_false, Bool.false_and, Bool.or_true, Bool.true_or, Bool.or_false, Bool.false_or, Bool.not_true, Bool.not_false, *])).symm, hs.keep⟩)
                  · skip
                    refine dr_take_g 34 rfl rfl rfl hb9 (by kernel_rfl) (.refl _) (pv_field0 fa_39_3 rfl (r := 3) rfl) rfl ?_
                    refine dr_take_g 35 rfl rfl rfl hb9 (by kernel_rfl) (.refl _) (by exact pv_load ld_3 rfl (box_cell (.s .z) (.s (.s (.s .z))))) rfl ?_
                    refine dr_take_g 36 rfl rfl rfl hb9 (by kernel_rfl) (.refl _) (pv_field0 fa_39_2 rfl (r := 2) rfl) rfl ?_
                    refine dr_take_g 37 rfl rfl rfl hb9 (by kernel_rfl) (.refl _) (by exact pv_load ld_3 rfl (box_cell (.s .z) (.s (.s .z)))) rfl ?_
                    refine dr_take_g 38 rfl rfl rfl hb9 (by kernel_rfl) (.refl _) (by first | exact pv_sub_n rfl rfl (by unfold In64; omega) | exact pv_sub rfl rfl) rfl ?_
                    refine dr_take_g 39 rfl rfl rfl hb9 (by kernel_rfl) (.refl _) (pv_move rfl) rfl ?_
                    refine dr_take_g 40 rfl rfl rfl hb9 (by kernel_rfl) (.refl _) (pv_move rfl) rfl ?_
                    refine dr_take_g 41 rfl rfl rfl hb9 (by kernel_rfl) (.refl _) (pv_ix Try.underlying22 cz_3 rfl rfl (by first | omega | (simp only [decide_eq_true_eq, decide_eq_false_iff_not] at *; omega)) hc.real (k := (placeI ns z.1).toNat) (by omega)) rfl ?_
                    refine dr_take_g 42 rfl rfl rfl hb9 (by kernel_rfl) (.refl _) (pv_elem0 ld_3 rfl (hc.get (hat (by simp only [decide_eq_false_iff_not] at *; omega)) .z)) rfl ?_
                    refine dr_take_g 43 rfl rfl rfl hb9 (by kernel_rfl) (.refl _) (pv_neq rfl rfl) rfl ?_
                    refine dr_take 44 rfl (by kernel_rfl) (.refl _) (pv_pick_f rfl hb9 rfl) rfl ?_
                    refine dr_take 45 rfl (by kernel_rfl) (.refl _) (pv_move rfl) rfl ?_
                    refine dr_split 85 rfl (fun hb10 => ?_) (fun hb10 => ?_)
                    · skip
                      refine dr_skip 46 rfl rfl rfl hb10 (by kernel_rfl) (.refl _) rfl ?_
                      refine dr_skip 47 rfl rfl rfl hb10 (by kernel_rfl) (.refl _) rfl ?_
                      refine dr_skip 48 rfl rfl rfl hb10 (by kernel_rfl) (.refl _) rfl ?_
                      refine dr_skip 49 rfl rfl rfl hb10 (by kernel_rfl) (.refl _) rfl ?_
                      refine dr_skip 50 rfl rfl rfl hb10 (by kernel_rfl) (.refl _) rfl ?_
                      refine dr_skip 51 rfl rfl rfl hb10 (by kernel_rfl) (.refl _) rfl ?_
                      refine dr_skip 52 rfl rfl rfl hb10 (by kernel_rfl) (.refl _) rfl ?_
                      refine dr_skip 53 rfl rfl rfl hb10 (by kernel_rfl) (.refl _) rfl ?_
                      refine dr_take 54 rfl (by kernel_rfl) (.refl _) (pv_pick_t rfl hb10 rfl) rfl ?_
                      refine dr_done (by kernel_rfl) ?_
                      refine ex_go ?_
                      refine cd_then rfl rfl ?_
                      refine cd_seq ?_
                      refine cd_region ?_
                      refine at_pure (pv_assign rfl) rfl ?_
                      refine at_nil ?_
                      refine ex_go ?_
                      refine cd_ret ?_
                      refine ex_then_ret (ex_in_ret (ex_then_ret (ex_then_ret (ex_in_ret (ex_then_ret ?_)))))
                      exact end_ret1 rfl rfl (fun w hs => ⟨by clear hs; refine congrArg (fun b => Ending.returned (.bool b)) ?_; first | exact (schV_all hp (bne_f (by assumption)) (fun j hj => hq j (by simp only [decide_eq_false_iff_not] at *; omega))).symm | exact (schV_no1 (.inl (by simpa using hb1))).symm | exact (schV_no1 (.inr (bne_t hb2))).symm | exact (schV_no2 hkl (by rw [vAt_eq hz, hov2]; simp)).symm | exact (schV_no2 hkl (by rw [vAt_eq hz]; unfold vSlotB; simp only [Bool.and_true, Bool.true_and, Bool.and_false, Bool.false_and, Bool.or_true, Bool.true_or, Bool.or_false, Bool.false_or, Bool.not_true, Bool.not_false, *])).symm, hs.keep⟩)
                    · skip
                      refine dr_take_g 46 rfl rfl rfl hb10 (by kernel_rfl) (.refl _) (by exact pv_loads_box ag_28 rfl .z (.take (.take .done))) rfl ?_
                      refine dr_take_g 47 rfl rfl rfl hb10 (by kernel_rfl) (.refl _) (pv_move rfl) rfl ?_
                      refine dr_take_g 48 rfl rfl rfl hb10 (by kernel_rfl) (.refl _) (pv_field0 fa_39_0 rfl (r := 0) rfl) rfl ?_
                      refine dr_take_g 49 rfl rfl rfl hb10 (by kernel_rfl) (.refl _) (by exact pv_load ld_3 rfl (box_cell (.s .z) .z)) rfl ?_
                      refine dr_take_g 50 rfl rfl rfl hb10 (by kernel_rfl) (.refl _) (pv_field0 fa_39_2 rfl (r := 2) rfl) rfl ?_
                      refine dr_take_g 51 rfl rfl rfl hb10 (by kernel_rfl) (.refl _) (by exact pv_load ld_3 rfl (box_cell (.s .z) (.s (.s .z)))) rfl ?_
                      refine dr_one 52 (by kernel_rfl) rfl ?_
                      refine at_does_g rfl rfl hb10 (does_val cal45 rfl rfl rfl (fun w hs => ready_ref a b ca cb ns ls d cd l _ _ w (hn.at' hs) (hl.at' hs) (hL.at' hs))) rfl (fun _ => ?_)
                      refine at_nil (dr_next (fun _ => (.refl _)) ?_)
                      refine dr_take_g 53 rfl rfl rfl hb10 (by kernel_rfl) (.refl _) (pv_not rfl) rfl ?_
                      refine dr_take 54 rfl (by kernel_rfl) (.refl _) (pv_pick_f rfl hb10 rfl) rfl ?_
                      refine dr_done (by kernel_rfl) ?_
                      refine ex_go ?_
                      refine cd_if rfl (fun hb11 => ?_) (fun hb11 => ?_)
                      · skip
                        refine cd_seq ?_
                        refine cd_region ?_
                        refine at_pure (pv_assign rfl) rfl ?_
                        refine at_nil ?_
                        refine ex_go ?_
                        refine cd_ret ?_
                        refine ex_then_ret (ex_in_ret (ex_then_ret (ex_then_ret (ex_in_ret (ex_then_ret ?_)))))
                        exact end_ret1 rfl rfl (fun w hs => ⟨by clear hs; refine congrArg (fun b => Ending.returned (.bool b)) ?_; first | exact (schV_all hp (bne_f (by assumption)) (fun j hj => hq j (by simp only [decide_eq_false_iff_not] at *; omega))).symm | exact (schV_no1 (.inl (by simpa using hb1))).symm | exact (schV_no1 (.inr (bne_t hb2))).symm | exact (schV_no2 hkl (by rw [vAt_eq hz, hov2]; simp)).symm | exact (schV_no2 hkl (by rw [vAt_eq hz]; unfold vSlotB; simp only [Bool.and_true, Bool.true_and, Bool.and_false, Bool.false_and, Bool.or_true, Bool.true_or, Bool.or_false, Bool.false_or, Bool.not_true, Bool.not_false, *])).symm, hs.keep⟩)
                      · skip
                        refine cd_skip ?_
                        refine ex_go ?_
                        refine cd_seq ?_
                        have hsl : vSlotB ns ls cs wk l k z = true := by unfold vSlotB; simp only [Bool.and_true, Bool.true_and, Bool.and_false, Bool.false_and, Bool.or_true, Bool.true_or, Bool.or_false, Bool.false_or, Bool.not_true, Bool.not_false, *]
                        refine cd_region ?_
                        refine at_pure (pv_assign rfl) rfl ?_
                        refine at_nil ?_
                        refine ex_go ?_
                        refine cd_block ?_
                        refine cd_loop (σ := Nat) (fun s => [(1, .slice c cs.length cc), (2, .int .i64 wk), (3, .slice d l.length cd), (4, Value.pointer (some ⟨g1, 0, none⟩)), (9, .int .i64 (k : Int)), (10, Value.pointer (some ⟨gz, 0, none⟩)), (12, .int .i64 (s : Int))]) (fun s => [Box g1 [.slice a ns.length ca, .slice b ls.length cb] 28, Box gz (enc4 z) 39]) (fun s => s ≤ k ∧ ((l.take k).any fun x => overB x z) = ((l.take k).drop s).any fun x => overB x z) (fun s => k - s) 0 ⟨Nat.zero_le _, rfl⟩ ⟨rfl, rfl, rfl, rfl, rfl, rfl, rfl, trivial⟩ (by repeat first | exact sLn _ | apply sLc | apply sLd) ?_
                        rintro j ⟨hj, hq2⟩
                        refine cd_seq ?_
                        refine cd_seq ?_
                        refine cd_region ?_
                        refine at_pure (pv_move rfl) rfl ?_
                        refine at_pure (pv_move rfl) rfl ?_
                        refine at_pure (pv_lss rfl rfl) rfl ?_
                        refine at_nil ?_
                        refine ex_go ?_
                        refine cd_if rfl (fun hlt2 => ?_) (fun hlt2 => ?_)
                        · have hjk : j < k := by simpa using hlt2
                          obtain ⟨y, hy⟩ := get_of (xs := l) (k := j) (by omega)
                          have hyt : (l.take k)[j]? = some y := by rw [List.getElem?_take, if_pos hjk]; exact hy
                          refine cd_skip ?_
                          refine ex_go ?_
                          refine cd_seq ?_
                          refine cd_block ?_
                          refine cd_seq ?_
                          refine cd_draw' 28 follows ?_
                          refine dr_take 0 rfl (by kernel_rfl) (.refl _) (pv_move rfl) rfl ?_
                          refine dr_take 1 rfl (by kernel_rfl) (.refl _) (pv_move rfl) rfl ?_
                          refine dr_take 2 rfl (by kernel_rfl) (.refl _) (pv_ix Try.underlying23 cz_39 rfl rfl (by first | omega | (simp only [decide_eq_true_eq, decide_eq_false_iff_not] at *; omega)) hL.real (k := j) (by omega)) rfl ?_
                          refine dr_take 3 rfl (by kernel_rfl) (.refl _) (pv_fieldAddr fa_39_1 rfl) rfl ?_
                          refine dr_take 4 rfl (by kernel_rfl) (.refl _) (pv_elem ld_3 rfl (hL.get hy (.s .z))) rfl ?_
                          refine dr_take 5 rfl (by kernel_rfl) (.refl _) (pv_field0 fa_39_1 rfl (r := 1) rfl) rfl ?_
                          refine dr_take 6 rfl (by kernel_rfl) (.refl _) (by exact pv_load ld_3 rfl (box_cell (.s .z) (.s .z))) rfl ?_
                          refine dr_take 7 rfl (by kernel_rfl) (.refl _) (pv_eql rfl rfl) rfl ?_
                          refine dr_take 8 rfl (by kernel_rfl) (.refl _) (pv_move rfl) rfl ?_
                          refine dr_split 108 rfl (fun hb13 => ?_) (fun hb13 => ?_)
                          · skip
                            refine dr_take_g 9 rfl rfl rfl hb13 (by kernel_rfl) (.refl _) (pv_move rfl) rfl ?_
                            refine dr_take_g 10 rfl rfl rfl hb13 (by kernel_rfl) (.refl _) (pv_move rfl) rfl ?_
                            refine dr_take_g 11 rfl rfl rfl hb13 (by kernel_rfl) (.refl _) (pv_ix Try.underlying23 cz_39 rfl rfl (by first | omega | (simp only [decide_eq_true_eq, decide_eq_false_iff_not] at *; omega)) hL.real (k := j) (by omega)) rfl ?_
                            refine dr_take_g 12 rfl rfl rfl hb13 (by kernel_rfl) (.refl _) (pv_fieldAddr fa_39_3 rfl) rfl ?_
                            refine dr_take_g 13 rfl rfl rfl hb13 (by kernel_rfl) (.refl _) (pv_elem ld_3 rfl (hL.get hy (.s (.s (.s .z))))) rfl ?_
                            refine dr_take_g 14 rfl rfl rfl hb13 (by kernel_rfl) (.refl _) (pv_field0 fa_39_2 rfl (r := 2) rfl) rfl ?_
                            refine dr_take_g 15 rfl rfl rfl hb13 (by kernel_rfl) (.refl _) (by exact pv_load ld_3 rfl (box_cell (.s .z) (.s (.s .z)))) rfl ?_
                            refine dr_take_g 16 rfl rfl rfl hb13 (by kernel_rfl) (.refl _) (pv_gtr rfl rfl) rfl ?_
                            refine dr_take 17 rfl (by kernel_rfl) (.refl _) (pv_pick_t rfl hb13 rfl) rfl ?_
                            refine dr_take 18 rfl (by kernel_rfl) (.refl _) (pv_move rfl) rfl ?_
                            refine dr_split 118 rfl (fun hb14 => ?_) (fun hb14 => ?_)
                            · skip
                              refine dr_take_g 19 rfl rfl rfl hb14 (by kernel_rfl) (.refl _) (pv_field0 fa_39_3 rfl (r := 3) rfl) rfl ?_
                              refine dr_take_g 20 rfl rfl rfl hb14 (by kernel_rfl) (.refl _) (by exact pv_load ld_3 rfl (box_cell (.s .z) (.s (.s (.s .z))))) rfl ?_
                              refine dr_take_g 21 rfl rfl rfl hb14 (by kernel_rfl) (.refl _) (pv_move rfl) rfl ?_
                              refine dr_take_g 22 rfl rfl rfl hb14 (by kernel_rfl) (.refl _) (pv_move rfl) rfl ?_
                              refine dr_take_g 23 rfl rfl rfl hb14 (by kernel_rfl) (.refl _) (pv_ix Try.underlying23 cz_39 rfl rfl (by first | omega | (simp only [decide_eq_true_eq, decide_eq_false_iff_not] at *; omega)) hL.real (k := j) (by omega)) rfl ?_
                              refine dr_take_g 24 rfl rfl rfl hb14 (by kernel_rfl) (.refl _) (pv_fieldAddr fa_39_2 rfl) rfl ?_
                              refine dr_take_g 25 rfl rfl rfl hb14 (by kernel_rfl) (.refl _) (pv_elem ld_3 rfl (hL.get hy (.s (.s .z)))) rfl ?_
                              refine dr_take_g 26 rfl rfl rfl hb14 (by kernel_rfl) (.refl _) (pv_gtr rfl rfl) rfl ?_
                              refine dr_take 27 rfl (by kernel_rfl) (.refl _) (pv_pick_t rfl hb14 rfl) rfl ?_
                              refine dr_done (by kernel_rfl) ?_
                              refine ex_go ?_
                              refine cd_if rfl (fun hb15 => ?_) (fun hb15 => ?_)
                              · skip
                                refine cd_seq ?_
                                have hov : overB y z = true := by unfold overB; simp only [Bool.and_true, Bool.true_and, Bool.and_false, Bool.false_and, Bool.or_true, Bool.true_or, Bool.or_false, Bool.false_or, Bool.not_true, Bool.not_false, *]
                                have hov2 : ((l.take k).any fun x => overB x z) = true := by rw [hq2, drop_of hyt, List.any_cons, hov, Bool.true_or]
                                refine cd_region ?_
                                refine at_pure (pv_assign rfl) rfl ?_
                                refine at_nil ?_
                                refine ex_go ?_
                                refine cd_ret ?_
                                refine ex_in_ret (ex_then_ret (ex_then_ret (ex_in_ret (ex_in_ret (ex_then_ret (ex_then_ret (ex_in_ret (ex_then_ret ?_))))))))
                                exact end_ret1 rfl rfl (fun w hs => ⟨by clear hs; refine congrArg (fun b => Ending.returned (.bool b)) ?_; first | exact (schV_all hp (bne_f (by assumption)) (fun j hj => hq j (by simp only [decide_eq_false_iff_not] at *; omega))).symm | exact (schV_no1 (.inl (by simpa using hb1))).symm | exact (schV_no1 (.inr (bne_t hb2))).symm | exact (schV_no2 hkl (by rw [vAt_eq hz, hov2]; simp)).symm | exact (schV_no2 hkl (by rw [vAt_eq hz]; unfold vSlotB; simp only [Bool.and_true, Bool.true_and, Bool.and_false, Bool.false_and, Bool.or_true, Bool.true_or, Bool.or_false, Bool.false_or, Bool.not_true, Bool.not_false, *])).symm, hs.keep⟩)
                              · skip
                                refine cd_skip ?_
                                refine ex_in_normal (ex_go ?_)
                                refine cd_region ?_
                                refine at_pure (pv_move rfl) rfl ?_
                                refine at_pure (by first | exact pv_add_n rfl rfl (by unfold In64; omega) | exact pv_add rfl rfl) rfl ?_
                                refine at_pure (pv_assign rfl) rfl ?_
                                refine at_nil ?_
                                have hov : overB y z = false := by unfold overB; simp only [Bool.and_true, Bool.true_and, Bool.and_false, Bool.false_and, Bool.or_true, Bool.true_or, Bool.or_false, Bool.false_or, Bool.not_true, Bool.not_false, *]
                                exact ex_meet (j + 1) ⟨⟨by omega, by rw [hq2, drop_of hyt, List.any_cons, hov, Bool.false_or]⟩, by omega⟩ ⟨rfl, rfl, rfl, rfl, rfl, rfl, rfl, trivial⟩ (by repeat first | exact sLn _ | apply sLc | apply sLd)
                            · skip
                              refine dr_skip 19 rfl rfl rfl hb14 (by kernel_rfl) (.refl _) rfl ?_
                              refine dr_skip 20 rfl rfl rfl hb14 (by kernel_rfl) (.refl _) rfl ?_
                              refine dr_skip 21 rfl rfl rfl hb14 (by kernel_rfl) (.refl _) rfl ?_
                              refine dr_skip 22 rfl rfl rfl hb14 (by kernel_rfl) (.refl _) rfl ?_
                              refine dr_skip 23 rfl rfl rfl hb14 (by kernel_rfl) (.refl _) rfl ?_
                              refine dr_skip 24 rfl rfl rfl hb14 (by kernel_rfl) (.refl _) rfl ?_
                              refine dr_skip 25 rfl rfl rfl hb14 (by kernel_rfl) (.refl _) rfl ?_
                              refine dr_skip 26 rfl rfl rfl hb14 (by kernel_rfl) (.refl _) rfl ?_
                              refine dr_take 27 rfl (by kernel_rfl) (.refl _) (pv_pick_f rfl hb14 rfl) rfl ?_
                              refine dr_done (by kernel_rfl) ?_
                              refine ex_go ?_
                              refine cd_else rfl rfl ?_
                              refine cd_skip ?_
                              refine ex_in_normal (ex_go ?_)
                              refine cd_region ?_
                              refine at_pure (pv_move rfl) rfl ?_
                              refine at_pure (by first | exact pv_add_n rfl rfl (by unfold In64; omega) | exact pv_add rfl rfl) rfl ?_
                              refine at_pure (pv_assign rfl) rfl ?_
                              refine at_nil ?_
                              have hov : overB y z = false := by unfold overB; simp only [Bool.and_true, Bool.true_and, Bool.and_false, Bool.false_and, Bool.or_true, Bool.true_or, Bool.or_false, Bool.false_or, Bool.not_true, Bool.not_false, *]
                              exact ex_meet (j + 1) ⟨⟨by omega, by rw [hq2, drop_of hyt, List.any_cons, hov, Bool.false_or]⟩, by omega⟩ ⟨rfl, rfl, rfl, rfl, rfl, rfl, rfl, trivial⟩ (by repeat first | exact sLn _ | apply sLc | apply sLd)
                          · skip
                            refine dr_skip 9 rfl rfl rfl hb13 (by kernel_rfl) (.refl _) rfl ?_
                            refine dr_skip 10 rfl rfl rfl hb13 (by kernel_rfl) (.refl _) rfl ?_
                            refine dr_skip 11 rfl rfl rfl hb13 (by kernel_rfl) (.refl _) rfl ?_
                            refine dr_skip 12 rfl rfl rfl hb13 (by kernel_rfl) (.refl _) rfl ?_
                            refine dr_skip 13 rfl rfl rfl hb13 (by kernel_rfl) (.refl _) rfl ?_
                            refine dr_skip 14 rfl rfl rfl hb13 (by kernel_rfl) (.refl _) rfl ?_
                            refine dr_skip 15 rfl rfl rfl hb13 (by kernel_rfl) (.refl _) rfl ?_
                            refine dr_skip 16 rfl rfl rfl hb13 (by kernel_rfl) (.refl _) rfl ?_
                            refine dr_take 17 rfl (by kernel_rfl) (.refl _) (pv_pick_f rfl hb13 rfl) rfl ?_
                            refine dr_take 18 rfl (by kernel_rfl) (.refl _) (pv_move rfl) rfl ?_
                            refine dr_skip 19 rfl rfl rfl rfl (by kernel_rfl) (.refl _) rfl ?_
                            refine dr_skip 20 rfl rfl rfl rfl (by kernel_rfl) (.refl _) rfl ?_
                            refine dr_skip 21 rfl rfl rfl rfl (by kernel_rfl) (.refl _) rfl ?_
                            refine dr_skip 22 rfl rfl rfl rfl (by kernel_rfl) (.refl _) rfl ?_
                            refine dr_skip 23 rfl rfl rfl rfl (by kernel_rfl) (.refl _) rfl ?_
                            refine dr_skip 24 rfl rfl rfl rfl (by kernel_rfl) (.refl _) rfl ?_
                            refine dr_skip 25 rfl rfl rfl rfl (by kernel_rfl) (.refl _) rfl ?_
                            refine dr_skip 26 rfl rfl rfl rfl (by kernel_rfl) (.refl _) rfl ?_
                            refine dr_take 27 rfl (by kernel_rfl) (.refl _) (pv_pick_f rfl rfl rfl) rfl ?_
                            refine dr_done (by kernel_rfl) ?_
                            refine ex_go ?_
                            refine cd_else rfl rfl ?_
                            refine cd_skip ?_
                            refine ex_in_normal (ex_go ?_)
                            refine cd_region ?_
                            refine at_pure (pv_move rfl) rfl ?_
                            refine at_pure (by first | exact pv_add_n rfl rfl (by unfold In64; omega) | exact pv_add rfl rfl) rfl ?_
                            refine at_pure (pv_assign rfl) rfl ?_
                            refine at_nil ?_
                            have hov : overB y z = false := by unfold overB; simp only [Bool.and_true, Bool.true_and, Bool.and_false, Bool.false_and, Bool.or_true, Bool.true_or, Bool.or_false, Bool.false_or, Bool.not_true, Bool.not_false, *]
                            exact ex_meet (j + 1) ⟨⟨by omega, by rw [hq2, drop_of hyt, List.any_cons, hov, Bool.false_or]⟩, by omega⟩ ⟨rfl, rfl, rfl, rfl, rfl, rfl, rfl, trivial⟩ (by repeat first | exact sLn _ | apply sLc | apply sLd)
                        · have hany : ((l.take k).any fun x => overB x z) = false := by rw [hq2, List.drop_eq_nil_of_le (by rw [List.length_take]; simp only [decide_eq_false_iff_not] at hlt2; omega)]; rfl
                          have hok : vAt ns ls cs wk l k = true := by rw [vAt_eq hz, hsl, hany]; rfl
                          refine cd_exit ?_
                          refine ex_then_exit (ex_then_exit (ex_in (ex_in_normal (ex_go ?_))))
                          refine cd_region ?_
                          refine at_pure (pv_move rfl) rfl ?_
                          refine at_pure (by first | exact pv_add_n rfl rfl (by unfold In64; omega) | exact pv_add rfl rfl) rfl ?_
                          refine at_pure (pv_assign rfl) rfl ?_
                          refine at_nil ?_
                          exact ex_meet (k + 1) ⟨⟨by omega, upto hq hok⟩, by omega⟩ ⟨rfl, rfl, rfl, rfl, rfl, trivial⟩ (by repeat first | exact sLn _ | apply sLc | apply sLd)
      · skip
        refine cd_exit ?_
        refine ex_then_exit (ex_then_exit (ex_in (ex_go ?_)))
        refine cd_seq ?_
        refine cd_region ?_
        refine at_pure (pv_assign rfl) rfl ?_
        refine at_nil ?_
        refine ex_go ?_
        refine cd_ret ?_
        exact end_ret1 rfl rfl (fun w hs => ⟨by clear hs; refine congrArg (fun b => Ending.returned (.bool b)) ?_; first | exact (schV_all hp (bne_f (by assumption)) (fun j hj => hq j (by simp only [decide_eq_false_iff_not] at *; omega))).symm | exact (schV_no1 (.inl (by simpa using hb1))).symm | exact (schV_no1 (.inr (bne_t hb2))).symm | exact (schV_no2 hkl (by rw [vAt_eq hz, hov2]; simp)).symm | exact (schV_no2 hkl (by rw [vAt_eq hz]; unfold vSlotB; simp only [Bool.and_true, Bool.true_and, Bool.and_false, Bool.false_and, Bool.or_true, Bool.true_or, Bool.or_false, Bool.false_or, Bool.not_true, Bool.not_false, *])).symm, hs.keep⟩)

end Go.Proofs.Ytkejdfnpbkdllaa
