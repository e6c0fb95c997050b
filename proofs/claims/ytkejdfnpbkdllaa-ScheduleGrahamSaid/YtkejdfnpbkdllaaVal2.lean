/- The schedule: Valid. -/
import Derived.Test.YtkejdfnpbkdllaaF25
import Derived.Test.YtkejdfnpbkdllaaValP2
set_option linter.unusedVariables false
set_option linter.unusedSimpArgs false
set_option maxRecDepth 20000
namespace Go.Proofs.Ytkejdfnpbkdllaa
open Go Go.RowKit Go.Proofs.YtkejdfnpbkdllaaV
theorem valid25_no (a b : Option Addr) (ca cb : Nat) (ns ls : List Q4) (c : Option Addr) (cc : Nat) (cs : List Int) (wk : Int) (d : Option Addr) (cd : Nat) (l : List Q4) (w : World) (hn : Sl [] enc4 4 w a ca ns) (hl : Sl [] enc4 4 w b cb ls) (hc : Sl [] enc1 1 w c cc cs) (hL : Sl [] enc4 4 w d cd l) (hp : problemS ns ls cs wk = false) : Calls Try.prog 15 [.agg #[.slice a ns.length ca, .slice b ls.length cb], .slice c cs.length cc, .int .i64 wk, .slice d l.length cd].toArray w (Val (.bool (schV ns ls cs wk l)) w) := by
  refine calls_body (n := 166) Try.func15 rfl rfl rfl (St.init _ []) ?_
  refine cd_seq ?_
  refine cd_region ?_
  refine at_does (does_box rfl .agg (fun _ => .nil)) rfl (fun g1 => ?_)
  refine at_pure (pv_assign rfl) rfl ?_
  refine at_nil ?_
  refine ex_go ?_
  refine cd_seq ?_
  refine cd_region ?_
  refine at_pure (by exact pv_loads_box ag_28 rfl .z (.take (.take .done))) rfl ?_
  refine at_pure (pv_move rfl) rfl ?_
  refine at_pure (pv_move rfl) rfl ?_
  refine at_does (does_val cal43 rfl rfl rfl (fun w hs => read_no a b ca cb ns ls c cc cs wk w (hn.at' hs) (hl.at' hs) (hc.at' hs) hp)) rfl (fun _ => ?_)
  refine at_pure (pv_move rfl) rfl ?_
  refine at_pure (pv_extract rfl rfl) rfl ?_
  refine at_pure (pv_extract rfl rfl) rfl ?_
  refine at_pure (pv_assign rfl) rfl ?_
  refine at_pure (pv_assign rfl) rfl ?_
  refine at_nil ?_
  refine ex_go ?_
  refine cd_seq ?_
  refine cd_seq ?_
  refine cd_region ?_
  refine at_pure (pv_move rfl) rfl ?_
  refine at_pure (pv_not rfl) rfl ?_
  refine at_pure (pv_move rfl) rfl ?_
  refine at_skip rfl rfl rfl rfl ?_
  refine at_skip rfl rfl rfl rfl ?_
  refine at_skip rfl rfl rfl rfl ?_
  refine at_skip rfl rfl rfl rfl ?_
  refine at_skip rfl rfl rfl rfl ?_
  refine at_skip rfl rfl rfl rfl ?_
  refine at_pure (pv_pick_t rfl rfl rfl) rfl ?_
  refine at_nil ?_
  refine ex_go ?_
  refine cd_then rfl rfl ?_
  refine cd_seq ?_
  refine cd_region ?_
  refine at_pure (pv_assign rfl) rfl ?_
  refine at_nil ?_
  refine ex_go ?_
  refine cd_ret ?_
  refine ex_then_ret ?_
  exact end_ret1 rfl rfl (fun w hs => ⟨by clear hs; refine congrArg (fun b => Ending.returned (.bool b)) ?_; exact (schV_no1 (.inl hp)).symm, hs.keep⟩)

set_option maxRecDepth 10000 in
set_option maxHeartbeats 2000000 in
theorem valid25_yes (a b : Option Addr) (ca cb : Nat) (ns ls : List Q4) (c : Option Addr) (cc : Nat) (cs : List Int) (wk : Int) (d : Option Addr) (cd : Nat) (l : List Q4) (w : World) (hn : Sl [] enc4 4 w a ca ns) (hl : Sl [] enc4 4 w b cb ls) (hc : Sl [] enc1 1 w c cc cs) (hL : Sl [] enc4 4 w d cd l) (hp : problemS ns ls cs wk = true) : Calls Try.prog 15 [.agg #[.slice a ns.length ca, .slice b ls.length cb], .slice c cs.length cc, .int .i64 wk, .slice d l.length cd].toArray w (Val (.bool (schV ns ls cs wk l)) w) := by
  have hpo := prob_of hp
  refine calls_body (n := 166) Try.func15 rfl rfl rfl (St.init _ []) ?_
  refine cd_seq ?_
  refine cd_region ?_
  refine at_does (does_box rfl .agg (fun _ => .nil)) rfl (fun g1 => ?_)
  refine at_pure (pv_assign rfl) rfl ?_
  refine at_nil ?_
  refine ex_go ?_
  refine cd_seq ?_
  refine cd_region ?_
  refine at_pure (by exact pv_loads_box ag_28 rfl .z (.take (.take .done))) rfl ?_
  refine at_pure (pv_move rfl) rfl ?_
  refine at_pure (pv_move rfl) rfl ?_
  refine at_mades (does_makes (X := PZ) (val := fun z => .tuple #[.pointer (some ⟨z.gp, 0, none⟩), .bool true]) (Δ := fun z => [MapP fI z.gm z.pm, RowP encH 1 22 (some ⟨z.gb, 0, none⟩) ns.length z.hds, Box z.gp [.slice a ns.length ca, .slice b ls.length cb, .slice c cs.length cc, .map (some z.gm), .slice z.oa (placesO ns ls).length z.oc, .slice (some ⟨z.gb, 0, none⟩) ns.length ns.length] 90, RowP enc1 1 3 z.oa z.oc (placesO ns ls), RowsP enc1 1 3 z.hds]) (good := PbOk ns ls) cal43 rfl rfl rfl (fun w hs => by have h9 := read_yes a b ca cb ns ls c cc cs wk w (hn.at' hs) (hl.at' hs) (hc.at' hs) hp; exact h9) (fun _ => (.cons .nil))) rfl (fun p hok => ?_)
  refine at_pure (pv_move rfl) rfl ?_
  refine at_pure (pv_extract rfl rfl) rfl ?_
  refine at_pure (pv_extract rfl rfl) rfl ?_
  refine at_pure (pv_assign rfl) rfl ?_
  refine at_pure (pv_assign rfl) rfl ?_
  refine at_nil ?_
  refine ex_go ?_
  refine cd_seq ?_
  refine cd_seq ?_
  refine cd_region ?_
  refine at_pure (pv_move rfl) rfl ?_
  refine at_pure (pv_not rfl) rfl ?_
  refine at_pure (pv_move rfl) rfl ?_
  refine at_pure_g rfl rfl rfl (pv_move rfl) rfl ?_
  refine at_pure_g rfl rfl rfl (pv_len Try.underlying23 rfl) rfl ?_
  refine at_pure_g rfl rfl rfl (pv_field0 fa_28_0 rfl (r := 0) rfl) rfl ?_
  refine at_pure_g rfl rfl rfl (by exact pv_load ld_25 rfl (box_cell .z .z)) rfl ?_
  refine at_pure_g rfl rfl rfl (pv_len Try.underlying25 rfl) rfl ?_
  refine at_pure_g rfl rfl rfl (pv_neq rfl rfl) rfl ?_
  refine at_pure (pv_pick_f rfl rfl rfl) rfl ?_
  refine at_nil ?_
  refine ex_go ?_
  refine cd_if rfl (fun hb1 => ?_) (fun hb1 => ?_)
  · skip
    refine cd_seq ?_
    refine cd_region ?_
    refine at_pure (pv_assign rfl) rfl ?_
    refine at_nil ?_
    refine ex_go ?_
    refine cd_ret ?_
    refine ex_then_ret ?_
    exact end_ret1 rfl rfl (fun w hs => ⟨by clear hs; refine congrArg (fun b => Ending.returned (.bool b)) ?_; first | exact (schV_no1 (.inr (bne_t (by assumption)))).symm, hs.keep⟩)
  · skip
    refine cd_skip ?_
    refine ex_go ?_
    refine cd_seq ?_
    have hlen : (l.length : Int) = ns.length := by simp only [decide_eq_true_eq, decide_eq_false_iff_not, bne_iff_ne, ne_eq, bne_eq_false_iff_eq, Bool.not_eq_true', Bool.not_eq_false', beq_iff_eq, beq_eq_false_iff_ne, Bool.not_true, Bool.not_false] at *; omega
    have hsm := hL.sm
    have hvf := valid_facts hpo.1
    have hcl := hpo.2.1
    refine cd_region ?_
    refine at_does (does_makeMap fQ (fun _ => (.cons (.cons (.cons (.cons (.cons (.cons .nil)))))))) rfl (fun gs => ?_)
    refine at_pure (pv_assign rfl) rfl ?_
    refine at_nil ?_
    refine ex_go ?_
    refine cd_seq ?_
    refine cd_seq ?_
    refine cd_region ?_
    refine at_pure (pv_move rfl) rfl ?_
    refine at_pure (pv_len Try.underlying23 rfl) rfl ?_
    refine at_pure (pv_move rfl) rfl ?_
    refine at_nil ?_
    refine ex_go ?_
    refine cd_block ?_
    refine cd_loop (σ := Nat) (fun s => [(1, .slice c cs.length cc), (2, .int .i64 wk), (9, .pointer (some ⟨p.gp, 0, none⟩)), (11, .map (some gs)), (42, .slice d l.length cd), (43, .int .i64 l.length), (44, .int .i64 (s : Int))]) (fun s => [Box g1 [.slice a ns.length ca, .slice b ls.length cb] 28, MapP fI p.gm p.pm, RowP encH 1 22 (some ⟨p.gb, 0, none⟩) ns.length p.hds, Box p.gp [.slice a ns.length ca, .slice b ls.length cb, .slice c cs.length cc, .map (some p.gm), .slice p.oa (placesO ns ls).length p.oc, .slice (some ⟨p.gb, 0, none⟩) ns.length ns.length] 90, RowP enc1 1 3 p.oa p.oc (placesO ns ls), RowsP enc1 1 3 p.hds, MapP fQ gs (kvS ns (l.take s))]) (fun s => s ≤ l.length ∧ VS ns cs wk (l.take s)) (fun s => l.length - s) 0 ⟨Nat.zero_le _, VS.nil _ _ _⟩ ⟨rfl, rfl, rfl, rfl, rfl, rfl, rfl, trivial⟩ (by repeat first | exact sLn _ | apply sLc | apply sLd) ?_
    rintro k ⟨hk, hq⟩
    refine cd_seq ?_
    refine cd_region ?_
    refine at_pure (pv_lss rfl rfl) rfl ?_
    refine at_nil ?_
    refine ex_go ?_
    refine cd_seq ?_
    refine cd_if rfl (fun hlt => ?_) (fun hlt => ?_)
    · skip
      refine cd_skip ?_
      refine ex_go ?_
      refine cd_seq ?_
      refine cd_block ?_
      refine cd_seq ?_
      have hkl : k < l.length := by simpa using hlt
      obtain ⟨z, hz⟩ := get_of hkl
      have hpj := plJ_in (ns := ns) z.1 (by omega)
      have hat := at1_get (xs := cs) (k := (plJ ns z.1).toNat) (by omega)
      refine cd_region ?_
      refine at_pure (pv_ix Try.underlying23 cz_39 rfl rfl (by first | omega | (simp only [decide_eq_true_eq, decide_eq_false_iff_not] at *; omega)) hL.real (k := k) (by omega)) rfl ?_
      refine at_pure (pv_elems ag_39 rfl (hL.gets hz) rfl) rfl ?_
      refine at_does (does_alloc ze_39 .agg (fun _ => (.cons (.cons (.cons (.cons (.cons (.cons (.cons .nil))))))))) rfl (fun gz => ?_)
      refine at_turns (by exact turns_store sz_39 rfl rfl .agg rfl rfl (.s (.s (.s (.s (.s (.s (.s .z))))))) (.rep (.rep (.rep (.rep .done)))) (.s (.s (.s (.s (.s (.s (.s .z)))))))) ?_
      refine at_nil ?_
      refine ex_go ?_
      refine cd_seq ?_
      refine cd_draw' 12 follows ?_
      refine dr_take 0 rfl (by kernel_rfl) (.refl _) (pv_move rfl) rfl ?_
      refine dr_take 1 rfl (by kernel_rfl) (.refl _) (pv_nilCheck rfl) rfl ?_
      refine dr_take 2 rfl (by kernel_rfl) (.refl _) (pv_field0 fa_90_2 rfl (r := 3) rfl) rfl ?_
      refine dr_take 3 rfl (by kernel_rfl) (.refl _) (by exact pv_load ld_88 rfl (box_cell (.s (.s (.s .z))) (.s (.s (.s .z))))) rfl ?_
      refine dr_take 4 rfl (by kernel_rfl) (.refl _) (pv_field0 fa_39_0 rfl (r := 0) rfl) rfl ?_
      refine dr_take 5 rfl (by kernel_rfl) (.refl _) (by exact pv_load ld_3 rfl (box_cell (.s (.s (.s (.s (.s (.s (.s .z))))))) .z)) rfl ?_
      refine dr_take 6 rfl (by kernel_rfl) (.refl _) (pv_mapgetI2v (plJ_ok hok.pm z.1) Try.underlying88 Try.underlying3 ze_3 rfl rfl (MapP.get (.s .z))) rfl ?_
      refine dr_take 7 rfl (by kernel_rfl) (.refl _) (pv_move rfl) rfl ?_
      refine dr_take 8 rfl (by kernel_rfl) (.refl _) (pv_extract rfl rfl) rfl ?_
      refine dr_take 9 rfl (by kernel_rfl) (.refl _) (pv_extract rfl rfl) rfl ?_
      refine dr_take 10 rfl (by kernel_rfl) (.refl _) (pv_assign rfl) rfl ?_
      refine dr_take 11 rfl (by kernel_rfl) (.refl _) (pv_assign rfl) rfl ?_
      refine dr_done (by kernel_rfl) ?_
      refine ex_go ?_
      refine cd_seq ?_
      refine cd_seq ?_
      refine cd_region ?_
      refine at_pure (pv_move rfl) rfl ?_
      refine at_pure (pv_move rfl) rfl ?_
      refine at_pure (pv_mapgetQ2 Try.underlying86 Try.underlying3 ze_39 rfl rfl (MapP.get (.s (.s (.s (.s (.s (.s .z)))))))) rfl ?_
      refine at_pure (pv_move rfl) rfl ?_
      refine at_pure (pv_extract rfl rfl) rfl ?_
      refine at_pure (pv_extract rfl rfl) rfl ?_
      refine at_does (does_alloc ze_39 .agg (fun _ => (.cons (.cons (.cons (.cons (.cons (.cons (.cons (.cons .nil)))))))))) rfl (fun g4 => ?_)
      refine at_turns (by exact turns_store sz_39 rfl rfl .agg rfl rfl (.s (.s (.s (.s (.s (.s (.s (.s .z)))))))) (.rep (.rep (.rep (.rep .done)))) (.s (.s (.s (.s (.s (.s (.s (.s .z))))))))) ?_
      refine at_pure (pv_assign rfl) rfl ?_
      refine at_nil ?_
      refine ex_go ?_
      refine cd_seq ?_
      refine cd_draw' 40 follows ?_
      refine dr_take 0 rfl (by kernel_rfl) (.refl _) (pv_move rfl) rfl ?_
      refine dr_take 1 rfl (by kernel_rfl) (.refl _) (pv_not rfl) rfl ?_
      refine dr_take 2 rfl (by kernel_rfl) (.refl _) (pv_move rfl) rfl ?_
      refine dr_split 66 rfl (fun hb3 => ?_) (fun hb3 => ?_)
      · skip
        refine dr_skip 3 rfl rfl rfl hb3 (by kernel_rfl) (.refl _) rfl ?_
        refine dr_take 4 rfl (by kernel_rfl) (.refl _) (pv_pick_t rfl hb3 rfl) rfl ?_
        refine dr_take 5 rfl (by kernel_rfl) (.refl _) (pv_move rfl) rfl ?_
        refine dr_skip 6 rfl rfl rfl rfl (by kernel_rfl) (.refl _) rfl ?_
        refine dr_skip 7 rfl rfl rfl rfl (by kernel_rfl) (.refl _) rfl ?_
        refine dr_skip 8 rfl rfl rfl rfl (by kernel_rfl) (.refl _) rfl ?_
        refine dr_take 9 rfl (by kernel_rfl) (.refl _) (pv_pick_t rfl rfl rfl) rfl ?_
        refine dr_take 10 rfl (by kernel_rfl) (.refl _) (pv_move rfl) rfl ?_
        refine dr_skip 11 rfl rfl rfl rfl (by kernel_rfl) (.refl _) rfl ?_
        refine dr_skip 12 rfl rfl rfl rfl (by kernel_rfl) (.refl _) rfl ?_
        refine dr_skip 13 rfl rfl rfl rfl (by kernel_rfl) (.refl _) rfl ?_
        refine dr_skip 14 rfl rfl rfl rfl (by kernel_rfl) (.refl _) rfl ?_
        refine dr_take 15 rfl (by kernel_rfl) (.refl _) (pv_pick_t rfl rfl rfl) rfl ?_
        refine dr_take 16 rfl (by kernel_rfl) (.refl _) (pv_move rfl) rfl ?_
        refine dr_skip 17 rfl rfl rfl rfl (by kernel_rfl) (.refl _) rfl ?_
        refine dr_skip 18 rfl rfl rfl rfl (by kernel_rfl) (.refl _) rfl ?_
        refine dr_skip 19 rfl rfl rfl rfl (by kernel_rfl) (.refl _) rfl ?_
        refine dr_take 20 rfl (by kernel_rfl) (.refl _) (pv_pick_t rfl rfl rfl) rfl ?_
        refine dr_take 21 rfl (by kernel_rfl) (.refl _) (pv_move rfl) rfl ?_
        refine dr_skip 22 rfl rfl rfl rfl (by kernel_rfl) (.refl _) rfl ?_
        refine dr_skip 23 rfl rfl rfl rfl (by kernel_rfl) (.refl _) rfl ?_
        refine dr_skip 24 rfl rfl rfl rfl (by kernel_rfl) (.refl _) rfl ?_
        refine dr_skip 25 rfl rfl rfl rfl (by kernel_rfl) (.refl _) rfl ?_
        refine dr_skip 26 rfl rfl rfl rfl (by kernel_rfl) (.refl _) rfl ?_
        refine dr_take 27 rfl (by kernel_rfl) (.refl _) (pv_pick_t rfl rfl rfl) rfl ?_
        refine dr_take 28 rfl (by kernel_rfl) (.refl _) (pv_move rfl) rfl ?_
        refine dr_skip 29 rfl rfl rfl rfl (by kernel_rfl) (.refl _) rfl ?_
        refine dr_skip 30 rfl rfl rfl rfl (by kernel_rfl) (.refl _) rfl ?_
        refine dr_skip 31 rfl rfl rfl rfl (by kernel_rfl) (.refl _) rfl ?_
        refine dr_skip 32 rfl rfl rfl rfl (by kernel_rfl) (.refl _) rfl ?_
        refine dr_skip 33 rfl rfl rfl rfl (by kernel_rfl) (.refl _) rfl ?_
        refine dr_skip 34 rfl rfl rfl rfl (by kernel_rfl) (.refl _) rfl ?_
        refine dr_skip 35 rfl rfl rfl rfl (by kernel_rfl) (.refl _) rfl ?_
        refine dr_skip 36 rfl rfl rfl rfl (by kernel_rfl) (.refl _) rfl ?_
        refine dr_skip 37 rfl rfl rfl rfl (by kernel_rfl) (.refl _) rfl ?_
        refine dr_skip 38 rfl rfl rfl rfl (by kernel_rfl) (.refl _) rfl ?_
        refine dr_take 39 rfl (by kernel_rfl) (.refl _) (pv_pick_t rfl rfl rfl) rfl ?_
        refine dr_done (by kernel_rfl) ?_
        refine ex_go ?_
        refine cd_then rfl rfl ?_
        refine cd_seq ?_
        refine cd_region ?_
        refine at_pure (pv_assign rfl) rfl ?_
        refine at_nil ?_
        refine ex_go ?_
        refine cd_ret ?_
        refine ex_then_ret (ex_in_ret (ex_then_ret (ex_then_ret (ex_in_ret (ex_then_ret ?_)))))
        exact end_ret1 rfl rfl (fun w hs => ⟨by clear hs; refine congrArg (fun b => Ending.returned (.bool b)) ?_; exact (schV_no fun sv => by have hm := List.mem_of_getElem? hz; have q1 := sv.place z hm; have q2 := sv.wk z hm; have q3 := sv.st z hm; have q4 := sv.cost z hm; rw [← plJ_pos q1] at q4; first | exact twice_no sv.nd hz q1 (by assumption) | (simp only [decide_eq_true_eq, decide_eq_false_iff_not, bne_iff_ne, ne_eq, bne_eq_false_iff_eq, Bool.not_eq_true', Bool.not_eq_false', beq_iff_eq, beq_eq_false_iff_ne, Bool.not_true, Bool.not_false] at *; omega)).symm, hs.keep⟩)
      · skip
        refine dr_take_g 3 rfl rfl rfl hb3 (by kernel_rfl) (.refl _) (pv_move rfl) rfl ?_
        refine dr_take 4 rfl (by kernel_rfl) (.refl _) (pv_pick_f rfl hb3 rfl) rfl ?_
        refine dr_take 5 rfl (by kernel_rfl) (.refl _) (pv_move rfl) rfl ?_
        refine dr_split 69 rfl (fun hb4 => ?_) (fun hb4 => ?_)
        · skip
          refine dr_skip 6 rfl rfl rfl hb4 (by kernel_rfl) (.refl _) rfl ?_
          refine dr_skip 7 rfl rfl rfl hb4 (by kernel_rfl) (.refl _) rfl ?_
          refine dr_skip 8 rfl rfl rfl hb4 (by kernel_rfl) (.refl _) rfl ?_
          refine dr_take 9 rfl (by kernel_rfl) (.refl _) (pv_pick_t rfl hb4 rfl) rfl ?_
          refine dr_take 10 rfl (by kernel_rfl) (.refl _) (pv_move rfl) rfl ?_
          refine dr_skip 11 rfl rfl rfl rfl (by kernel_rfl) (.refl _) rfl ?_
          refine dr_skip 12 rfl rfl rfl rfl (by kernel_rfl) (.refl _) rfl ?_
          refine dr_skip 13 rfl rfl rfl rfl (by kernel_rfl) (.refl _) rfl ?_
          refine dr_skip 14 rfl rfl rfl rfl (by kernel_rfl) (.refl _) rfl ?_
          refine dr_take 15 rfl (by kernel_rfl) (.refl _) (pv_pick_t rfl rfl rfl) rfl ?_
          refine dr_take 16 rfl (by kernel_rfl) (.refl _) (pv_move rfl) rfl ?_
          refine dr_skip 17 rfl rfl rfl rfl (by kernel_rfl) (.refl _) rfl ?_
          refine dr_skip 18 rfl rfl rfl rfl (by kernel_rfl) (.refl _) rfl ?_
          refine dr_skip 19 rfl rfl rfl rfl (by kernel_rfl) (.refl _) rfl ?_
          refine dr_take 20 rfl (by kernel_rfl) (.refl _) (pv_pick_t rfl rfl rfl) rfl ?_
          refine dr_take 21 rfl (by kernel_rfl) (.refl _) (pv_move rfl) rfl ?_
          refine dr_skip 22 rfl rfl rfl rfl (by kernel_rfl) (.refl _) rfl ?_
          refine dr_skip 23 rfl rfl rfl rfl (by kernel_rfl) (.refl _) rfl ?_
          refine dr_skip 24 rfl rfl rfl rfl (by kernel_rfl) (.refl _) rfl ?_
          refine dr_skip 25 rfl rfl rfl rfl (by kernel_rfl) (.refl _) rfl ?_
          refine dr_skip 26 rfl rfl rfl rfl (by kernel_rfl) (.refl _) rfl ?_
          refine dr_take 27 rfl (by kernel_rfl) (.refl _) (pv_pick_t rfl rfl rfl) rfl ?_
          refine dr_take 28 rfl (by kernel_rfl) (.refl _) (pv_move rfl) rfl ?_
          refine dr_skip 29 rfl rfl rfl rfl (by kernel_rfl) (.refl _) rfl ?_
          refine dr_skip 30 rfl rfl rfl rfl (by kernel_rfl) (.refl _) rfl ?_
          refine dr_skip 31 rfl rfl rfl rfl (by kernel_rfl) (.refl _) rfl ?_
          refine dr_skip 32 rfl rfl rfl rfl (by kernel_rfl) (.refl _) rfl ?_
          refine dr_skip 33 rfl rfl rfl rfl (by kernel_rfl) (.refl _) rfl ?_
          refine dr_skip 34 rfl rfl rfl rfl (by kernel_rfl) (.refl _) rfl ?_
          refine dr_skip 35 rfl rfl rfl rfl (by kernel_rfl) (.refl _) rfl ?_
          refine dr_skip 36 rfl rfl rfl rfl (by kernel_rfl) (.refl _) rfl ?_
          refine dr_skip 37 rfl rfl rfl rfl (by kernel_rfl) (.refl _) rfl ?_
          refine dr_skip 38 rfl rfl rfl rfl (by kernel_rfl) (.refl _) rfl ?_
          refine dr_take 39 rfl (by kernel_rfl) (.refl _) (pv_pick_t rfl rfl rfl) rfl ?_
          refine dr_done (by kernel_rfl) ?_
          refine ex_go ?_
          refine cd_then rfl rfl ?_
          refine cd_seq ?_
          refine cd_region ?_
          refine at_pure (pv_assign rfl) rfl ?_
          refine at_nil ?_
          refine ex_go ?_
          refine cd_ret ?_
          refine ex_then_ret (ex_in_ret (ex_then_ret (ex_then_ret (ex_in_ret (ex_then_ret ?_)))))
          exact end_ret1 rfl rfl (fun w hs => ⟨by clear hs; refine congrArg (fun b => Ending.returned (.bool b)) ?_; exact (schV_no fun sv => by have hm := List.mem_of_getElem? hz; have q1 := sv.place z hm; have q2 := sv.wk z hm; have q3 := sv.st z hm; have q4 := sv.cost z hm; rw [← plJ_pos q1] at q4; first | exact twice_no sv.nd hz q1 (by assumption) | (simp only [decide_eq_true_eq, decide_eq_false_iff_not, bne_iff_ne, ne_eq, bne_eq_false_iff_eq, Bool.not_eq_true', Bool.not_eq_false', beq_iff_eq, beq_eq_false_iff_ne, Bool.not_true, Bool.not_false] at *; omega)).symm, hs.keep⟩)
        · skip
          refine dr_take_g 6 rfl rfl rfl hb4 (by kernel_rfl) (.refl _) (pv_field0 fa_39_1 rfl (r := 1) rfl) rfl ?_
          refine dr_take_g 7 rfl rfl rfl hb4 (by kernel_rfl) (.refl _) (by exact pv_load ld_3 rfl (box_cell (.s (.s (.s (.s (.s (.s (.s .z))))))) (.s .z))) rfl ?_
          refine dr_take_g 8 rfl rfl rfl hb4 (by kernel_rfl) (.refl _) (pv_lss rfl rfl) rfl ?_
          refine dr_take 9 rfl (by kernel_rfl) (.refl _) (pv_pick_f rfl hb4 rfl) rfl ?_
          refine dr_take 10 rfl (by kernel_rfl) (.refl _) (pv_move rfl) rfl ?_
          refine dr_split 74 rfl (fun hb5 => ?_) (fun hb5 => ?_)
          · skip
            refine dr_skip 11 rfl rfl rfl hb5 (by kernel_rfl) (.refl _) rfl ?_
            refine dr_skip 12 rfl rfl rfl hb5 (by kernel_rfl) (.refl _) rfl ?_
            refine dr_skip 13 rfl rfl rfl hb5 (by kernel_rfl) (.refl _) rfl ?_
            refine dr_skip 14 rfl rfl rfl hb5 (by kernel_rfl) (.refl _) rfl ?_
            refine dr_take 15 rfl (by kernel_rfl) (.refl _) (pv_pick_t rfl hb5 rfl) rfl ?_
            refine dr_take 16 rfl (by kernel_rfl) (.refl _) (pv_move rfl) rfl ?_
            refine dr_skip 17 rfl rfl rfl rfl (by kernel_rfl) (.refl _) rfl ?_
            refine dr_skip 18 rfl rfl rfl rfl (by kernel_rfl) (.refl _) rfl ?_
            refine dr_skip 19 rfl rfl rfl rfl (by kernel_rfl) (.refl _) rfl ?_
            refine dr_take 20 rfl (by kernel_rfl) (.refl _) (pv_pick_t rfl rfl rfl) rfl ?_
            refine dr_take 21 rfl (by kernel_rfl) (.refl _) (pv_move rfl) rfl ?_
            refine dr_skip 22 rfl rfl rfl rfl (by kernel_rfl) (.refl _) rfl ?_
            refine dr_skip 23 rfl rfl rfl rfl (by kernel_rfl) (.refl _) rfl ?_
            refine dr_skip 24 rfl rfl rfl rfl (by kernel_rfl) (.refl _) rfl ?_
            refine dr_skip 25 rfl rfl rfl rfl (by kernel_rfl) (.refl _) rfl ?_
            refine dr_skip 26 rfl rfl rfl rfl (by kernel_rfl) (.refl _) rfl ?_
            refine dr_take 27 rfl (by kernel_rfl) (.refl _) (pv_pick_t rfl rfl rfl) rfl ?_
            refine dr_take 28 rfl (by kernel_rfl) (.refl _) (pv_move rfl) rfl ?_
            refine dr_skip 29 rfl rfl rfl rfl (by kernel_rfl) (.refl _) rfl ?_
            refine dr_skip 30 rfl rfl rfl rfl (by kernel_rfl) (.refl _) rfl ?_
            refine dr_skip 31 rfl rfl rfl rfl (by kernel_rfl) (.refl _) rfl ?_
            refine dr_skip 32 rfl rfl rfl rfl (by kernel_rfl) (.refl _) rfl ?_
            refine dr_skip 33 rfl rfl rfl rfl (by kernel_rfl) (.refl _) rfl ?_
            refine dr_skip 34 rfl rfl rfl rfl (by kernel_rfl) (.refl _) rfl ?_
            refine dr_skip 35 rfl rfl rfl rfl (by kernel_rfl) (.refl _) rfl ?_
            refine dr_skip 36 rfl rfl rfl rfl (by kernel_rfl) (.refl _) rfl ?_
            refine dr_skip 37 rfl rfl rfl rfl (by kernel_rfl) (.refl _) rfl ?_
            refine dr_skip 38 rfl rfl rfl rfl (by kernel_rfl) (.refl _) rfl ?_
            refine dr_take 39 rfl (by kernel_rfl) (.refl _) (pv_pick_t rfl rfl rfl) rfl ?_
            refine dr_done (by kernel_rfl) ?_
            refine ex_go ?_
            refine cd_then rfl rfl ?_
            refine cd_seq ?_
            refine cd_region ?_
            refine at_pure (pv_assign rfl) rfl ?_
            refine at_nil ?_
            refine ex_go ?_
            refine cd_ret ?_
            refine ex_then_ret (ex_in_ret (ex_then_ret (ex_then_ret (ex_in_ret (ex_then_ret ?_)))))
            exact end_ret1 rfl rfl (fun w hs => ⟨by clear hs; refine congrArg (fun b => Ending.returned (.bool b)) ?_; exact (schV_no fun sv => by have hm := List.mem_of_getElem? hz; have q1 := sv.place z hm; have q2 := sv.wk z hm; have q3 := sv.st z hm; have q4 := sv.cost z hm; rw [← plJ_pos q1] at q4; first | exact twice_no sv.nd hz q1 (by assumption) | (simp only [decide_eq_true_eq, decide_eq_false_iff_not, bne_iff_ne, ne_eq, bne_eq_false_iff_eq, Bool.not_eq_true', Bool.not_eq_false', beq_iff_eq, beq_eq_false_iff_ne, Bool.not_true, Bool.not_false] at *; omega)).symm, hs.keep⟩)
          · skip
            refine dr_take_g 11 rfl rfl rfl hb5 (by kernel_rfl) (.refl _) (pv_field0 fa_39_1 rfl (r := 1) rfl) rfl ?_
            refine dr_take_g 12 rfl rfl rfl hb5 (by kernel_rfl) (.refl _) (by exact pv_load ld_3 rfl (box_cell (.s (.s (.s (.s (.s (.s (.s .z))))))) (.s .z))) rfl ?_
            refine dr_take_g 13 rfl rfl rfl hb5 (by kernel_rfl) (.refl _) (pv_move rfl) rfl ?_
            refine dr_take_g 14 rfl rfl rfl hb5 (by kernel_rfl) (.refl _) (pv_geq rfl rfl) rfl ?_
            refine dr_take 15 rfl (by kernel_rfl) (.refl _) (pv_pick_f rfl hb5 rfl) rfl ?_
            refine dr_take 16 rfl (by kernel_rfl) (.refl _) (pv_move rfl) rfl ?_
            refine dr_split 80 rfl (fun hb6 => ?_) (fun hb6 => ?_)
            · skip
              refine dr_skip 17 rfl rfl rfl hb6 (by kernel_rfl) (.refl _) rfl ?_
              refine dr_skip 18 rfl rfl rfl hb6 (by kernel_rfl) (.refl _) rfl ?_
              refine dr_skip 19 rfl rfl rfl hb6 (by kernel_rfl) (.refl _) rfl ?_
              refine dr_take 20 rfl (by kernel_rfl) (.refl _) (pv_pick_t rfl hb6 rfl) rfl ?_
              refine dr_take 21 rfl (by kernel_rfl) (.refl _) (pv_move rfl) rfl ?_
              refine dr_skip 22 rfl rfl rfl rfl (by kernel_rfl) (.refl _) rfl ?_
              refine dr_skip 23 rfl rfl rfl rfl (by kernel_rfl) (.refl _) rfl ?_
              refine dr_skip 24 rfl rfl rfl rfl (by kernel_rfl) (.refl _) rfl ?_
              refine dr_skip 25 rfl rfl rfl rfl (by kernel_rfl) (.refl _) rfl ?_
              refine dr_skip 26 rfl rfl rfl rfl (by kernel_rfl) (.refl _) rfl ?_
              refine dr_take 27 rfl (by kernel_rfl) (.refl _) (pv_pick_t rfl rfl rfl) rfl ?_
              refine dr_take 28 rfl (by kernel_rfl) (.refl _) (pv_move rfl) rfl ?_
              refine dr_skip 29 rfl rfl rfl rfl (by kernel_rfl) (.refl _) rfl ?_
              refine dr_skip 30 rfl rfl rfl rfl (by kernel_rfl) (.refl _) rfl ?_
              refine dr_skip 31 rfl rfl rfl rfl (by kernel_rfl) (.refl _) rfl ?_
              refine dr_skip 32 rfl rfl rfl rfl (by kernel_rfl) (.refl _) rfl ?_
              refine dr_skip 33 rfl rfl rfl rfl (by kernel_rfl) (.refl _) rfl ?_
              refine dr_skip 34 rfl rfl rfl rfl (by kernel_rfl) (.refl _) rfl ?_
              refine dr_skip 35 rfl rfl rfl rfl (by kernel_rfl) (.refl _) rfl ?_
              refine dr_skip 36 rfl rfl rfl rfl (by kernel_rfl) (.refl _) rfl ?_
              refine dr_skip 37 rfl rfl rfl rfl (by kernel_rfl) (.refl _) rfl ?_
              refine dr_skip 38 rfl rfl rfl rfl (by kernel_rfl) (.refl _) rfl ?_
              refine dr_take 39 rfl (by kernel_rfl) (.refl _) (pv_pick_t rfl rfl rfl) rfl ?_
              refine dr_done (by kernel_rfl) ?_
              refine ex_go ?_
              refine cd_then rfl rfl ?_
              refine cd_seq ?_
              refine cd_region ?_
              refine at_pure (pv_assign rfl) rfl ?_
              refine at_nil ?_
              refine ex_go ?_
              refine cd_ret ?_
              refine ex_then_ret (ex_in_ret (ex_then_ret (ex_then_ret (ex_in_ret (ex_then_ret ?_)))))
              exact end_ret1 rfl rfl (fun w hs => ⟨by clear hs; refine congrArg (fun b => Ending.returned (.bool b)) ?_; exact (schV_no fun sv => by have hm := List.mem_of_getElem? hz; have q1 := sv.place z hm; have q2 := sv.wk z hm; have q3 := sv.st z hm; have q4 := sv.cost z hm; rw [← plJ_pos q1] at q4; first | exact twice_no sv.nd hz q1 (by assumption) | (simp only [decide_eq_true_eq, decide_eq_false_iff_not, bne_iff_ne, ne_eq, bne_eq_false_iff_eq, Bool.not_eq_true', Bool.not_eq_false', beq_iff_eq, beq_eq_false_iff_ne, Bool.not_true, Bool.not_false] at *; omega)).symm, hs.keep⟩)
            · skip
              refine dr_take_g 17 rfl rfl rfl hb6 (by kernel_rfl) (.refl _) (pv_field0 fa_39_2 rfl (r := 2) rfl) rfl ?_
              refine dr_take_g 18 rfl rfl rfl hb6 (by kernel_rfl) (.refl _) (by exact pv_load ld_3 rfl (box_cell (.s (.s (.s (.s (.s (.s (.s .z))))))) (.s (.s .z)))) rfl ?_
              refine dr_take_g 19 rfl rfl rfl hb6 (by kernel_rfl) (.refl _) (pv_lss rfl rfl) rfl ?_
              refine dr_take 20 rfl (by kernel_rfl) (.refl _) (pv_pick_f rfl hb6 rfl) rfl ?_
              refine dr_take 21 rfl (by kernel_rfl) (.refl _) (pv_move rfl) rfl ?_
              refine dr_split 85 rfl (fun hb7 => ?_) (fun hb7 => ?_)
              · skip
                refine dr_skip 22 rfl rfl rfl hb7 (by kernel_rfl) (.refl _) rfl ?_
                refine dr_skip 23 rfl rfl rfl hb7 (by kernel_rfl) (.refl _) rfl ?_
                refine dr_skip 24 rfl rfl rfl hb7 (by kernel_rfl) (.refl _) rfl ?_
                refine dr_skip 25 rfl rfl rfl hb7 (by kernel_rfl) (.refl _) rfl ?_
                refine dr_skip 26 rfl rfl rfl hb7 (by kernel_rfl) (.refl _) rfl ?_
                refine dr_take 27 rfl (by kernel_rfl) (.refl _) (pv_pick_t rfl hb7 rfl) rfl ?_
                refine dr_take 28 rfl (by kernel_rfl) (.refl _) (pv_move rfl) rfl ?_
                refine dr_skip 29 rfl rfl rfl rfl (by kernel_rfl) (.refl _) rfl ?_
                refine dr_skip 30 rfl rfl rfl rfl (by kernel_rfl) (.refl _) rfl ?_
                refine dr_skip 31 rfl rfl rfl rfl (by kernel_rfl) (.refl _) rfl ?_
                refine dr_skip 32 rfl rfl rfl rfl (by kernel_rfl) (.refl _) rfl ?_
                refine dr_skip 33 rfl rfl rfl rfl (by kernel_rfl) (.refl _) rfl ?_
                refine dr_skip 34 rfl rfl rfl rfl (by kernel_rfl) (.refl _) rfl ?_
                refine dr_skip 35 rfl rfl rfl rfl (by kernel_rfl) (.refl _) rfl ?_
                refine dr_skip 36 rfl rfl rfl rfl (by kernel_rfl) (.refl _) rfl ?_
                refine dr_skip 37 rfl rfl rfl rfl (by kernel_rfl) (.refl _) rfl ?_
                refine dr_skip 38 rfl rfl rfl rfl (by kernel_rfl) (.refl _) rfl ?_
                refine dr_take 39 rfl (by kernel_rfl) (.refl _) (pv_pick_t rfl rfl rfl) rfl ?_
                refine dr_done (by kernel_rfl) ?_
                refine ex_go ?_
                refine cd_then rfl rfl ?_
                refine cd_seq ?_
                refine cd_region ?_
                refine at_pure (pv_assign rfl) rfl ?_
                refine at_nil ?_
                refine ex_go ?_
                refine cd_ret ?_
                refine ex_then_ret (ex_in_ret (ex_then_ret (ex_then_ret (ex_in_ret (ex_then_ret ?_)))))
                exact end_ret1 rfl rfl (fun w hs => ⟨by clear hs; refine congrArg (fun b => Ending.returned (.bool b)) ?_; exact (schV_no fun sv => by have hm := List.mem_of_getElem? hz; have q1 := sv.place z hm; have q2 := sv.wk z hm; have q3 := sv.st z hm; have q4 := sv.cost z hm; rw [← plJ_pos q1] at q4; first | exact twice_no sv.nd hz q1 (by assumption) | (simp only [decide_eq_true_eq, decide_eq_false_iff_not, bne_iff_ne, ne_eq, bne_eq_false_iff_eq, Bool.not_eq_true', Bool.not_eq_false', beq_iff_eq, beq_eq_false_iff_ne, Bool.not_true, Bool.not_false] at *; omega)).symm, hs.keep⟩)
              · skip
                refine dr_take_g 22 rfl rfl rfl hb7 (by kernel_rfl) (.refl _) (pv_field0 fa_39_3 rfl (r := 3) rfl) rfl ?_
                refine dr_take_g 23 rfl rfl rfl hb7 (by kernel_rfl) (.refl _) (by exact pv_load ld_3 rfl (box_cell (.s (.s (.s (.s (.s (.s (.s .z))))))) (.s (.s (.s .z))))) rfl ?_
                refine dr_take_g 24 rfl rfl rfl hb7 (by kernel_rfl) (.refl _) (pv_field0 fa_39_2 rfl (r := 2) rfl) rfl ?_
                refine dr_take_g 25 rfl rfl rfl hb7 (by kernel_rfl) (.refl _) (by exact pv_load ld_3 rfl (box_cell (.s (.s (.s (.s (.s (.s (.s .z))))))) (.s (.s .z)))) rfl ?_
                refine dr_take_g 26 rfl rfl rfl hb7 (by kernel_rfl) (.refl _) (pv_lss rfl rfl) rfl ?_
                refine dr_take 27 rfl (by kernel_rfl) (.refl _) (pv_pick_f rfl hb7 rfl) rfl ?_
                refine dr_take 28 rfl (by kernel_rfl) (.refl _) (pv_move rfl) rfl ?_
                refine dr_split 92 rfl (fun hb8 => ?_) (fun hb8 => ?_)
                · skip
                  refine dr_skip 29 rfl rfl rfl hb8 (by kernel_rfl) (.refl _) rfl ?_
                  refine dr_skip 30 rfl rfl rfl hb8 (by kernel_rfl) (.refl _) rfl ?_
                  refine dr_skip 31 rfl rfl rfl hb8 (by kernel_rfl) (.refl _) rfl ?_
                  refine dr_skip 32 rfl rfl rfl hb8 (by kernel_rfl) (.refl _) rfl ?_
                  refine dr_skip 33 rfl rfl rfl hb8 (by kernel_rfl) (.refl _) rfl ?_
                  refine dr_skip 34 rfl rfl rfl hb8 (by kernel_rfl) (.refl _) rfl ?_
                  refine dr_skip 35 rfl rfl rfl hb8 (by kernel_rfl) (.refl _) rfl ?_
                  refine dr_skip 36 rfl rfl rfl hb8 (by kernel_rfl) (.refl _) rfl ?_
                  refine dr_skip 37 rfl rfl rfl hb8 (by kernel_rfl) (.refl _) rfl ?_
                  refine dr_skip 38 rfl rfl rfl hb8 (by kernel_rfl) (.refl _) rfl ?_
                  refine dr_take 39 rfl (by kernel_rfl) (.refl _) (pv_pick_t rfl hb8 rfl) rfl ?_
                  refine dr_done (by kernel_rfl) ?_
                  refine ex_go ?_
                  refine cd_then rfl rfl ?_
                  refine cd_seq ?_
                  refine cd_region ?_
                  refine at_pure (pv_assign rfl) rfl ?_
                  refine at_nil ?_
                  refine ex_go ?_
                  refine cd_ret ?_
                  refine ex_then_ret (ex_in_ret (ex_then_ret (ex_then_ret (ex_in_ret (ex_then_ret ?_)))))
                  exact end_ret1 rfl rfl (fun w hs => ⟨by clear hs; refine congrArg (fun b => Ending.returned (.bool b)) ?_; exact (schV_no fun sv => by have hm := List.mem_of_getElem? hz; have q1 := sv.place z hm; have q2 := sv.wk z hm; have q3 := sv.st z hm; have q4 := sv.cost z hm; rw [← plJ_pos q1] at q4; first | exact twice_no sv.nd hz q1 (by assumption) | (simp only [decide_eq_true_eq, decide_eq_false_iff_not, bne_iff_ne, ne_eq, bne_eq_false_iff_eq, Bool.not_eq_true', Bool.not_eq_false', beq_iff_eq, beq_eq_false_iff_ne, Bool.not_true, Bool.not_false] at *; omega)).symm, hs.keep⟩)
                · skip
                  refine dr_take_g 29 rfl rfl rfl hb8 (by kernel_rfl) (.refl _) (pv_field0 fa_39_3 rfl (r := 3) rfl) rfl ?_
                  refine dr_take_g 30 rfl rfl rfl hb8 (by kernel_rfl) (.refl _) (by exact pv_load ld_3 rfl (box_cell (.s (.s (.s (.s (.s (.s (.s .z))))))) (.s (.s (.s .z))))) rfl ?_
                  refine dr_take_g 31 rfl rfl rfl hb8 (by kernel_rfl) (.refl _) (pv_field0 fa_39_2 rfl (r := 2) rfl) rfl ?_
                  refine dr_take_g 32 rfl rfl rfl hb8 (by kernel_rfl) (.refl _) (by exact pv_load ld_3 rfl (box_cell (.s (.s (.s (.s (.s (.s (.s .z))))))) (.s (.s .z)))) rfl ?_
                  refine dr_take_g 33 rfl rfl rfl hb8 (by kernel_rfl) (.refl _) (by first | exact pv_sub_n rfl rfl (by unfold In64; omega) | exact pv_sub rfl rfl) rfl ?_
                  refine dr_take_g 34 rfl rfl rfl hb8 (by kernel_rfl) (.refl _) (pv_move rfl) rfl ?_
                  refine dr_take_g 35 rfl rfl rfl hb8 (by kernel_rfl) (.refl _) (pv_move rfl) rfl ?_
                  refine dr_take_g 36 rfl rfl rfl hb8 (by kernel_rfl) (.refl _) (pv_ix Try.underlying22 cz_3 rfl rfl (by first | omega | (simp only [decide_eq_true_eq, decide_eq_false_iff_not] at *; omega)) hc.real (k := (plJ ns z.1).toNat) (by omega)) rfl ?_
                  refine dr_take_g 37 rfl rfl rfl hb8 (by kernel_rfl) (.refl _) (pv_elem0 ld_3 rfl (hc.get hat .z)) rfl ?_
                  refine dr_take_g 38 rfl rfl rfl hb8 (by kernel_rfl) (.refl _) (pv_neq rfl rfl) rfl ?_
                  refine dr_take 39 rfl (by kernel_rfl) (.refl _) (pv_pick_f rfl hb8 rfl) rfl ?_
                  refine dr_done (by kernel_rfl) ?_
                  refine ex_go ?_
                  refine cd_if rfl (fun hb9 => ?_) (fun hb9 => ?_)
                  · skip
                    refine cd_seq ?_
                    refine cd_region ?_
                    refine at_pure (pv_assign rfl) rfl ?_
                    refine at_nil ?_
                    refine ex_go ?_
                    refine cd_ret ?_
                    refine ex_then_ret (ex_in_ret (ex_then_ret (ex_then_ret (ex_in_ret (ex_then_ret ?_)))))
                    exact end_ret1 rfl rfl (fun w hs => ⟨by clear hs; refine congrArg (fun b => Ending.returned (.bool b)) ?_; exact (schV_no fun sv => by have hm := List.mem_of_getElem? hz; have q1 := sv.place z hm; have q2 := sv.wk z hm; have q3 := sv.st z hm; have q4 := sv.cost z hm; rw [← plJ_pos q1] at q4; first | exact twice_no sv.nd hz q1 (by assumption) | (simp only [decide_eq_true_eq, decide_eq_false_iff_not, bne_iff_ne, ne_eq, bne_eq_false_iff_eq, Bool.not_eq_true', Bool.not_eq_false', beq_iff_eq, beq_eq_false_iff_ne, Bool.not_true, Bool.not_false] at *; omega)).symm, hs.keep⟩)
                  · skip
                    refine cd_skip ?_
                    refine ex_go ?_
                    refine cd_region ?_
                    refine at_pure (pv_move rfl) rfl ?_
                    refine at_pure (pv_move rfl) rfl ?_
                    refine at_pure (by exact pv_loads_box ag_39 rfl (.s (.s (.s (.s (.s (.s (.s .z))))))) (.take (.take (.take (.take .done))))) rfl ?_
                    refine at_turns (by exact turns_mapput (z) Try.underlying86 Try.underlying3 rfl rfl rfl rfl (.s (.s (.s (.s (.s (.s .z)))))) (.s (.s (.s (.s (.s (.s .z))))))) ?_
                    refine at_nil ?_
                    refine ex_in_normal (ex_go ?_)
                    refine cd_region ?_
                    refine at_pure (by first | exact pv_add_n rfl rfl (by unfold In64; omega) | exact pv_add rfl rfl) rfl ?_
                    refine at_pure (pv_move rfl) rfl ?_
                    refine at_nil ?_
                    have hpp : 0 ≤ placeI ns z.1 := by simp only [decide_eq_true_eq, decide_eq_false_iff_not, bne_iff_ne, ne_eq, bne_eq_false_iff_eq, Bool.not_eq_true', Bool.not_eq_false', beq_iff_eq, beq_eq_false_iff_ne, Bool.not_true, Bool.not_false] at *; omega
                    have htw : (mget (kvS ns (l.take k)) (plJ ns z.1)).isSome = false := by first | assumption | simpa using hbt
                    exact ex_meet (k + 1) ⟨⟨by omega, hq.snoc hz hpp htw (by simp only [decide_eq_true_eq, decide_eq_false_iff_not, bne_iff_ne, ne_eq, bne_eq_false_iff_eq, Bool.not_eq_true', Bool.not_eq_false', beq_iff_eq, beq_eq_false_iff_ne, Bool.not_true, Bool.not_false] at *; omega) (by simp only [decide_eq_true_eq, decide_eq_false_iff_not, bne_iff_ne, ne_eq, bne_eq_false_iff_eq, Bool.not_eq_true', Bool.not_eq_false', beq_iff_eq, beq_eq_false_iff_ne, Bool.not_true, Bool.not_false] at *; omega) (by simp only [decide_eq_true_eq, decide_eq_false_iff_not, bne_iff_ne, ne_eq, bne_eq_false_iff_eq, Bool.not_eq_true', Bool.not_eq_false', beq_iff_eq, beq_eq_false_iff_ne, Bool.not_true, Bool.not_false] at *; omega)⟩, by omega⟩ ⟨rfl, rfl, rfl, rfl, rfl, rfl, rfl, trivial⟩ (by rw [← kvS_snoc hz hpp htw]; repeat first | exact sLn _ | apply sLc | apply sLd)
    · skip
      refine cd_exit ?_
      refine ex_then_exit (ex_then_exit (ex_in (ex_go ?_)))
      refine cd_seq ?_
      refine cd_seq ?_
      have hkk : k = l.length := by simp only [decide_eq_false_iff_not] at hlt; omega
      subst hkk
      rw [List.take_length] at *
      have hvs := hq
      refine cd_region ?_
      refine at_pure (pv_move rfl) rfl ?_
      refine at_does (does_range (f := fQ) (kv := (kvS ns l)) Try.underlying86 rfl (fun w hs => MapP.get (.s (.s (.s (.s (.s (.s .z)))))) w hs) (fun _ => (.cons (.cons (.cons (.cons (.cons (.cons (.cons .nil))))))))) rfl (fun gi => ?_)
      refine at_nil ?_
      refine ex_go ?_
      refine cd_block ?_
      refine cd_loop (σ := List Nat) (fun s => [(9, .pointer (some ⟨p.gp, 0, none⟩)), (11, .map (some gs)), (109, .pointer (some ⟨gi, 0, none⟩))]) (fun s => [Box g1 [.slice a ns.length ca, .slice b ls.length cb] 28, MapP fI p.gm p.pm, RowP encH 1 22 (some ⟨p.gb, 0, none⟩) ns.length p.hds, Box p.gp [.slice a ns.length ca, .slice b ls.length cb, .slice c cs.length cc, .map (some p.gm), .slice p.oa (placesO ns ls).length p.oc, .slice (some ⟨p.gb, 0, none⟩) ns.length ns.length] 90, RowP enc1 1 3 p.oa p.oc (placesO ns ls), RowsP enc1 1 3 p.hds, MapP fQ gs (kvS ns l), IterP gi gs (kvS ns l).length s]) (fun s => SeenOk l (fun z => WaitOk ns ls l z ∧ ApartOk ns l z) s) (fun s => l.length - s.length) [] (SeenOk.start _ _) ⟨rfl, rfl, rfl, trivial⟩ (by repeat first | exact sLn _ | apply sLc | apply sLd) ?_
      rintro seen hsn
      refine cd_seq ?_
      refine cd_region ?_
      refine at_next (f := fQ) (kv := (kvS ns l)) (does_next (k := 0) (f := fQ) (kv := (kvS ns l)) rfl (.s (.s (.s (.s (.s (.s (.s .z))))))) (fun w hs => MapP.get (.s (.s (.s (.s (.s (.s .z)))))) w hs) (fun _ => (.s (.s (.s (.s (.s (.s (.s .z))))))))) rfl (fun hall => ?_) (fun j z0 hz0 hns => ?_)
      · skip
        refine at_pure (pv_extract rfl rfl) rfl ?_
        refine at_nil ?_
        refine ex_go ?_
        refine cd_seq ?_
        refine cd_else rfl rfl ?_
        refine cd_exit ?_
        refine ex_then_exit (ex_then_exit (ex_in (ex_go ?_)))
        refine cd_seq ?_
        refine cd_region ?_
        refine at_pure (pv_assign rfl) rfl ?_
        refine at_nil ?_
        refine ex_go ?_
        refine cd_ret ?_
        exact end_ret1 rfl rfl (fun w hs => ⟨by clear hs; refine congrArg (fun b => Ending.returned (.bool b)) ?_; exact (schV_yes (SV.build hp (by simp only [decide_eq_true_eq, decide_eq_false_iff_not, bne_iff_ne, ne_eq, bne_eq_false_iff_eq, Bool.not_eq_true', Bool.not_eq_false', beq_iff_eq, beq_eq_false_iff_ne, Bool.not_true, Bool.not_false] at *; omega) hvs (hsn.all hall))).symm, hs.keep⟩)
      · obtain ⟨z, hz, rfl⟩ := kvS_at hz0
        refine at_pure (pv_extract rfl rfl) rfl ?_
        refine at_nil ?_
        refine ex_go ?_
        refine cd_seq ?_
        refine cd_then rfl rfl ?_
        refine cd_skip ?_
        refine ex_go ?_
        refine cd_block ?_
        refine cd_seq ?_
        refine cd_region ?_
        refine at_pure (pv_entry (f := fQ) (kv := (kvS ns l)) rfl (.s (.s (.s (.s (.s (.s (.s .z))))))) (fun w hs => MapP.get (.s (.s (.s (.s (.s (.s .z)))))) w hs) hz0) rfl ?_
        refine at_pure (pv_extract rfl rfl) rfl ?_
        refine at_pure (pv_extract rfl rfl) rfl ?_
        refine at_does (does_alloc ze_39 .agg (fun _ => (.cons (.cons (.cons (.cons (.cons (.cons (.cons (.cons .nil)))))))))) rfl (fun gz => ?_)
        refine at_pure (pv_assign rfl) rfl ?_
        refine at_turns (by exact turns_store sz_39 rfl rfl .agg rfl rfl (.s (.s (.s (.s (.s (.s (.s (.s .z)))))))) (.rep (.rep (.rep (.rep .done)))) (.s (.s (.s (.s (.s (.s (.s (.s .z))))))))) ?_
        refine at_nil ?_
        refine ex_go ?_
        refine cd_seq ?_
        refine cd_seq ?_
        have hzm := List.mem_of_getElem? hz
        have hzp := hvs.place z hzm
        have hpl := place_lt ns z.1
        obtain ⟨yy, hyy, hyy2⟩ := place_get hzp
        obtain ⟨hh, hhk⟩ := get_of (xs := p.hds) (k := (placeI ns z.1).toNat) (by rw [hok.bef.1]; omega)
        have hrl : hh.2.2 = befRow ns ls z.1 := by rw [hok.bef.2 _ hh yy hhk hyy, hyy2]
        have hhlen := hok.bef.1
        have hr64 : hh.2.2.length ≤ 256 := by rw [hrl]; unfold befRow; rw [List.length_map]; exact Nat.le_trans (linksTo_len _ _) hvf.2.1
        refine Cd.know (fun w hs => (hs.rowsAt len1 (by decide) (.s (.s (.s (.s (.s .z))))) (List.mem_of_getElem? hhk)).real) (fun hrr => ?_)
        refine cd_region ?_
        refine at_pure (pv_move rfl) rfl ?_
        refine at_pure (pv_nilCheck rfl) rfl ?_
        refine at_pure (pv_field0 fa_90_4 rfl (r := 5) rfl) rfl ?_
        refine at_pure (by exact pv_load ld_47 rfl (box_cell (.s (.s (.s .z))) (.s (.s (.s (.s (.s .z))))))) rfl ?_
        refine at_pure (pv_move rfl) rfl ?_
        refine at_pure (pv_ix Try.underlying47 cz_22 rfl rfl (by first | omega | (simp only [decide_eq_true_eq, decide_eq_false_iff_not] at *; omega)) (.inr rfl) (k := (placeI ns z.1).toNat) (by omega)) rfl ?_
        refine at_pure (pv_elem0 ld_22 rfl (RowP.get lenH (by decide) (.s (.s .z)) hhk .z)) rfl ?_
        refine at_pure (pv_len Try.underlying22 rfl) rfl ?_
        refine at_pure (pv_move rfl) rfl ?_
        refine at_nil ?_
        refine ex_go ?_
        refine cd_block ?_
        refine cd_loop (σ := Nat) (fun s => [(9, .pointer (some ⟨p.gp, 0, none⟩)), (11, .map (some gs)), (109, .pointer (some ⟨gi, 0, none⟩)), (18, .int .i64 (placeI ns z.1)), (19, Value.pointer (some ⟨gz, 0, none⟩)), (121, .slice hh.1 hh.2.2.length hh.2.1), (122, .int .i64 hh.2.2.length), (123, .int .i64 (s : Int))]) (fun s => [Box g1 [.slice a ns.length ca, .slice b ls.length cb] 28, MapP fI p.gm p.pm, RowP encH 1 22 (some ⟨p.gb, 0, none⟩) ns.length p.hds, Box p.gp [.slice a ns.length ca, .slice b ls.length cb, .slice c cs.length cc, .map (some p.gm), .slice p.oa (placesO ns ls).length p.oc, .slice (some ⟨p.gb, 0, none⟩) ns.length ns.length] 90, RowP enc1 1 3 p.oa p.oc (placesO ns ls), RowsP enc1 1 3 p.hds, MapP fQ gs (kvS ns l), IterP gi gs (kvS ns l).length (seen ++ [j]), Box gz (enc4 z) 39]) (fun s => s ≤ hh.2.2.length ∧ ∀ x ∈ hh.2.2.take s, ((mget (kvS ns l) x).getD (0, 0, 0, 0)).2.2.2 ≤ z.2.2.1) (fun s => hh.2.2.length - s) 0 ⟨Nat.zero_le _, by simp⟩ ⟨rfl, rfl, rfl, rfl, rfl, rfl, rfl, rfl, trivial⟩ (by repeat first | exact sLn _ | apply sLc | apply sLd) ?_
        rintro i ⟨hi, hq2⟩
        refine cd_seq ?_
        refine cd_region ?_
        refine at_pure (pv_lss rfl rfl) rfl ?_
        refine at_nil ?_
        refine ex_go ?_
        refine cd_seq ?_
        refine cd_if rfl (fun hlt2 => ?_) (fun hlt2 => ?_)
        · have hil : i < hh.2.2.length := by simpa using hlt2
          obtain ⟨x, hx⟩ := get_of hil
          refine cd_skip ?_
          refine ex_go ?_
          refine cd_seq ?_
          refine cd_block ?_
          refine cd_seq ?_
          refine cd_region ?_
          refine at_pure (pv_ix Try.underlying22 cz_3 rfl rfl (by first | omega | (simp only [decide_eq_true_eq, decide_eq_false_iff_not] at *; omega)) hrr (k := i) (by omega)) rfl ?_
          refine at_pure (pv_elem0 ld_3 rfl (Sl_now (fun w hs => hs.rowsAt len1 (by decide) (.s (.s (.s (.s (.s .z))))) (List.mem_of_getElem? hhk)) hx .z)) rfl ?_
          refine at_pure (pv_assign rfl) rfl ?_
          refine at_nil ?_
          refine ex_go ?_
          refine cd_seq ?_
          refine cd_region ?_
          refine at_pure (pv_move rfl) rfl ?_
          refine at_pure (pv_move rfl) rfl ?_
          refine at_pure (pv_mapgetQ Try.underlying86 Try.underlying3 ze_39 rfl rfl (MapP.get (.s (.s (.s (.s (.s (.s .z)))))))) rfl ?_
          refine at_pure (pv_field f1_39_3 rfl (.s (.s (.s .z)))) rfl ?_
          refine at_pure (pv_field0 fa_39_2 rfl (r := 2) rfl) rfl ?_
          refine at_pure (by exact pv_load ld_3 rfl (box_cell (.s (.s (.s (.s (.s (.s (.s (.s .z)))))))) (.s (.s .z)))) rfl ?_
          refine at_pure (pv_gtr rfl rfl) rfl ?_
          refine at_nil ?_
          refine ex_go ?_
          refine cd_if rfl (fun hwx => ?_) (fun hwx => ?_)
          · skip
            refine cd_seq ?_
            refine cd_region ?_
            refine at_pure (pv_assign rfl) rfl ?_
            refine at_nil ?_
            refine ex_go ?_
            refine cd_ret ?_
            refine ex_in_ret (ex_then_ret (ex_then_ret (ex_in_ret (ex_then_ret (ex_in_ret (ex_then_ret (ex_in_ret (ex_then_ret ?_))))))))
            exact end_ret1 rfl rfl (fun w hs => ⟨by clear hs; refine congrArg (fun b => Ending.returned (.bool b)) ?_; exact (schV_no fun sv => by have := (sv.waitOk (List.mem_of_getElem? hz)) x (by rw [← hrl]; exact List.mem_of_getElem? hx); simp only [decide_eq_true_eq] at hwx; omega).symm, hs.keep⟩)
          · skip
            refine cd_skip ?_
            refine ex_in_normal (ex_go ?_)
            refine cd_region ?_
            refine at_pure (by first | exact pv_add_n rfl rfl (by unfold In64; omega) | exact pv_add rfl rfl) rfl ?_
            refine at_pure (pv_move rfl) rfl ?_
            refine at_nil ?_
            exact ex_meet (i + 1) ⟨⟨by omega, fun u hu => by rw [List.take_add_one, hx, Option.toList_some, List.mem_append, List.mem_singleton] at hu; rcases hu with hu | rfl; exact hq2 u hu; simpa using hwx⟩, by omega⟩ ⟨rfl, rfl, rfl, rfl, rfl, rfl, rfl, rfl, trivial⟩ (by repeat first | exact sLn _ | apply sLc | apply sLd)
        · have hii : i = hh.2.2.length := by simp only [decide_eq_false_iff_not] at hlt2; omega
          subst hii
          rw [List.take_length] at hq2
          have hwt : WaitOk ns ls l z := by unfold WaitOk; rw [← hrl]; exact hq2
          refine cd_exit ?_
          refine ex_then_exit (ex_then_exit (ex_in (ex_go ?_)))
          refine cd_seq ?_
          refine cd_region ?_
          refine at_pure (pv_move rfl) rfl ?_
          refine at_does (does_range (f := fQ) (kv := (kvS ns l)) Try.underlying86 rfl (fun w hs => MapP.get (.s (.s (.s (.s (.s (.s .z)))))) w hs) (fun _ => (.cons (.cons (.cons (.cons (.cons (.cons (.cons (.cons (.cons .nil))))))))))) rfl (fun gj => ?_)
          refine at_nil ?_
          refine ex_go ?_
          refine cd_block ?_
          refine cd_loop (σ := List Nat) (fun s => [(9, .pointer (some ⟨p.gp, 0, none⟩)), (11, .map (some gs)), (109, .pointer (some ⟨gi, 0, none⟩)), (18, .int .i64 (placeI ns z.1)), (19, Value.pointer (some ⟨gz, 0, none⟩)), (136, .pointer (some ⟨gj, 0, none⟩))]) (fun s => [Box g1 [.slice a ns.length ca, .slice b ls.length cb] 28, MapP fI p.gm p.pm, RowP encH 1 22 (some ⟨p.gb, 0, none⟩) ns.length p.hds, Box p.gp [.slice a ns.length ca, .slice b ls.length cb, .slice c cs.length cc, .map (some p.gm), .slice p.oa (placesO ns ls).length p.oc, .slice (some ⟨p.gb, 0, none⟩) ns.length ns.length] 90, RowP enc1 1 3 p.oa p.oc (placesO ns ls), RowsP enc1 1 3 p.hds, MapP fQ gs (kvS ns l), IterP gi gs (kvS ns l).length (seen ++ [j]), Box gz (enc4 z) 39, IterP gj gs (kvS ns l).length s]) (fun s => SeenOk l (fun y => placeI ns y.1 = placeI ns z.1 ∨ overB y z = false) s) (fun s => l.length - s.length) [] (SeenOk.start _ _) ⟨rfl, rfl, rfl, rfl, rfl, rfl, trivial⟩ (by repeat first | exact sLn _ | apply sLc | apply sLd) ?_
          rintro seen2 hsn2
          refine cd_seq ?_
          refine cd_region ?_
          refine at_next (f := fQ) (kv := (kvS ns l)) (does_next (k := 0) (f := fQ) (kv := (kvS ns l)) rfl (.s (.s (.s (.s (.s (.s (.s (.s (.s .z))))))))) (fun w hs => MapP.get (.s (.s (.s (.s (.s (.s .z)))))) w hs) (fun _ => (.s (.s (.s (.s (.s (.s (.s (.s (.s .z))))))))))) rfl (fun hall2 => ?_) (fun j2 z1 hz1 hns2 => ?_)
          · skip
            refine at_pure (pv_extract rfl rfl) rfl ?_
            refine at_nil ?_
            refine ex_go ?_
            refine cd_seq ?_
            refine cd_else rfl rfl ?_
            refine cd_exit ?_
            refine ex_then_exit (ex_then_exit (ex_in (ex_in_normal ?_)))
            have hst := hsn.step hns hz ⟨hwt, hsn2.all hall2⟩
            exact ex_meet (seen ++ [j]) hst ⟨rfl, rfl, rfl, trivial⟩ (by repeat first | exact sLn _ | apply sLc | apply sLd)
          · obtain ⟨y, hy, rfl⟩ := kvS_at hz1
            refine at_pure (pv_extract rfl rfl) rfl ?_
            refine at_nil ?_
            refine ex_go ?_
            refine cd_seq ?_
            refine cd_then rfl rfl ?_
            refine cd_skip ?_
            refine ex_go ?_
            refine cd_block ?_
            refine cd_seq ?_
            refine cd_region ?_
            refine at_pure (pv_entry (f := fQ) (kv := (kvS ns l)) rfl (.s (.s (.s (.s (.s (.s (.s (.s (.s .z))))))))) (fun w hs => MapP.get (.s (.s (.s (.s (.s (.s .z)))))) w hs) hz1) rfl ?_
            refine at_pure (pv_extract rfl rfl) rfl ?_
            refine at_pure (pv_extract rfl rfl) rfl ?_
            refine at_does (does_alloc ze_39 .agg (fun _ => (.cons (.cons (.cons (.cons (.cons (.cons (.cons (.cons (.cons (.cons .nil)))))))))))) rfl (fun g8 => ?_)
            refine at_pure (pv_assign rfl) rfl ?_
            refine at_turns (by exact turns_store sz_39 rfl rfl .agg rfl rfl (.s (.s (.s (.s (.s (.s (.s (.s (.s (.s .z)))))))))) (.rep (.rep (.rep (.rep .done)))) (.s (.s (.s (.s (.s (.s (.s (.s (.s (.s .z))))))))))) ?_
            refine at_nil ?_
            refine ex_go ?_
            refine cd_seq ?_
            refine cd_region ?_
            refine at_pure (pv_move rfl) rfl ?_
            refine at_pure (pv_move rfl) rfl ?_
            refine at_pure (pv_neq rfl rfl) rfl ?_
            refine at_pure (pv_move rfl) rfl ?_
            refine at_split 145 rfl (fun hb12 => ?_) (fun hb12 => ?_)
            · skip
              refine at_pure_g rfl rfl hb12 (pv_field0 fa_39_1 rfl (r := 1) rfl) rfl ?_
              refine at_pure_g rfl rfl hb12 (by exact pv_load ld_3 rfl (box_cell (.s (.s (.s (.s (.s (.s (.s (.s (.s (.s .z)))))))))) (.s .z))) rfl ?_
              refine at_pure_g rfl rfl hb12 (pv_field0 fa_39_1 rfl (r := 1) rfl) rfl ?_
              refine at_pure_g rfl rfl hb12 (by exact pv_load ld_3 rfl (box_cell (.s (.s (.s (.s (.s (.s (.s (.s .z)))))))) (.s .z))) rfl ?_
              refine at_pure_g rfl rfl hb12 (pv_eql rfl rfl) rfl ?_
              refine at_pure (pv_pick_t rfl hb12 rfl) rfl ?_
              refine at_pure (pv_move rfl) rfl ?_
              refine at_split 152 rfl (fun hb13 => ?_) (fun hb13 => ?_)
              · skip
                refine at_pure_g rfl rfl hb13 (pv_field0 fa_39_3 rfl (r := 3) rfl) rfl ?_
                refine at_pure_g rfl rfl hb13 (by exact pv_load ld_3 rfl (box_cell (.s (.s (.s (.s (.s (.s (.s (.s (.s (.s .z)))))))))) (.s (.s (.s .z))))) rfl ?_
                refine at_pure_g rfl rfl hb13 (pv_field0 fa_39_2 rfl (r := 2) rfl) rfl ?_
                refine at_pure_g rfl rfl hb13 (by exact pv_load ld_3 rfl (box_cell (.s (.s (.s (.s (.s (.s (.s (.s .z)))))))) (.s (.s .z)))) rfl ?_
                refine at_pure_g rfl rfl hb13 (pv_gtr rfl rfl) rfl ?_
                refine at_pure (pv_pick_t rfl hb13 rfl) rfl ?_
                refine at_pure (pv_move rfl) rfl ?_
                refine at_split 159 rfl (fun hb14 => ?_) (fun hb14 => ?_)
                · skip
                  refine at_pure_g rfl rfl hb14 (pv_field0 fa_39_3 rfl (r := 3) rfl) rfl ?_
                  refine at_pure_g rfl rfl hb14 (by exact pv_load ld_3 rfl (box_cell (.s (.s (.s (.s (.s (.s (.s (.s .z)))))))) (.s (.s (.s .z))))) rfl ?_
                  refine at_pure_g rfl rfl hb14 (pv_field0 fa_39_2 rfl (r := 2) rfl) rfl ?_
                  refine at_pure_g rfl rfl hb14 (by exact pv_load ld_3 rfl (box_cell (.s (.s (.s (.s (.s (.s (.s (.s (.s (.s .z)))))))))) (.s (.s .z)))) rfl ?_
                  refine at_pure_g rfl rfl hb14 (pv_gtr rfl rfl) rfl ?_
                  refine at_pure (pv_pick_t rfl hb14 rfl) rfl ?_
                  refine at_nil ?_
                  refine ex_go ?_
                  refine cd_if rfl (fun hb15 => ?_) (fun hb15 => ?_)
                  · skip
                    refine cd_seq ?_
                    refine cd_region ?_
                    refine at_pure (pv_assign rfl) rfl ?_
                    refine at_nil ?_
                    refine ex_go ?_
                    refine cd_ret ?_
                    refine ex_in_ret (ex_then_ret (ex_in_ret (ex_in_ret (ex_then_ret (ex_in_ret (ex_then_ret ?_))))))
                    exact end_ret1 rfl rfl (fun w hs => ⟨by clear hs; refine congrArg (fun b => Ending.returned (.bool b)) ?_; exact (schV_no fun sv => by dsimp only at *; exact (sv.apartOk (List.mem_of_getElem? hz) y (List.mem_of_getElem? hy)).elim (fun h9 => by simp_all) (fun h9 => by have h8 := overB_yes h9; simp only [decide_eq_true_eq, decide_eq_false_iff_not, bne_iff_ne, ne_eq, bne_eq_false_iff_eq, Bool.not_eq_true', Bool.not_eq_false', beq_iff_eq, beq_eq_false_iff_ne, Bool.not_true, Bool.not_false] at *; omega)).symm, hs.keep⟩)
                  · skip
                    refine cd_skip ?_
                    refine ex_in_normal ?_
                    exact ex_meet (seen2 ++ [j2]) (hsn2.step hns2 hy (by by_cases he : placeI ns y.1 = placeI ns z.1; exact .inl he; exact .inr (overB_no (by simp only [decide_eq_true_eq, decide_eq_false_iff_not, bne_iff_ne, ne_eq, bne_eq_false_iff_eq, Bool.not_eq_true', Bool.not_eq_false', beq_iff_eq, beq_eq_false_iff_ne, Bool.not_true, Bool.not_false] at *; first | omega | simp_all; done)))) ⟨rfl, rfl, rfl, rfl, rfl, rfl, trivial⟩ (by repeat first | exact sLn _ | apply sLc | apply sLd)
                · skip
                  refine at_skip rfl rfl hb14 rfl ?_
                  refine at_skip rfl rfl hb14 rfl ?_
                  refine at_skip rfl rfl hb14 rfl ?_
                  refine at_skip rfl rfl hb14 rfl ?_
                  refine at_skip rfl rfl hb14 rfl ?_
                  refine at_pure (pv_pick_f rfl hb14 rfl) rfl ?_
                  refine at_nil ?_
                  refine ex_go ?_
                  refine cd_else rfl rfl ?_
                  refine cd_skip ?_
                  refine ex_in_normal ?_
                  exact ex_meet (seen2 ++ [j2]) (hsn2.step hns2 hy (by by_cases he : placeI ns y.1 = placeI ns z.1; exact .inl he; exact .inr (overB_no (by simp only [decide_eq_true_eq, decide_eq_false_iff_not, bne_iff_ne, ne_eq, bne_eq_false_iff_eq, Bool.not_eq_true', Bool.not_eq_false', beq_iff_eq, beq_eq_false_iff_ne, Bool.not_true, Bool.not_false] at *; first | omega | simp_all; done)))) ⟨rfl, rfl, rfl, rfl, rfl, rfl, trivial⟩ (by repeat first | exact sLn _ | apply sLc | apply sLd)
              · skip
                refine at_skip rfl rfl hb13 rfl ?_
                refine at_skip rfl rfl hb13 rfl ?_
                refine at_skip rfl rfl hb13 rfl ?_
                refine at_skip rfl rfl hb13 rfl ?_
                refine at_skip rfl rfl hb13 rfl ?_
                refine at_pure (pv_pick_f rfl hb13 rfl) rfl ?_
                refine at_pure (pv_move rfl) rfl ?_
                refine at_skip rfl rfl rfl rfl ?_
                refine at_skip rfl rfl rfl rfl ?_
                refine at_skip rfl rfl rfl rfl ?_
                refine at_skip rfl rfl rfl rfl ?_
                refine at_skip rfl rfl rfl rfl ?_
                refine at_pure (pv_pick_f rfl rfl rfl) rfl ?_
                refine at_nil ?_
                refine ex_go ?_
                refine cd_else rfl rfl ?_
                refine cd_skip ?_
                refine ex_in_normal ?_
                exact ex_meet (seen2 ++ [j2]) (hsn2.step hns2 hy (by by_cases he : placeI ns y.1 = placeI ns z.1; exact .inl he; exact .inr (overB_no (by simp only [decide_eq_true_eq, decide_eq_false_iff_not, bne_iff_ne, ne_eq, bne_eq_false_iff_eq, Bool.not_eq_true', Bool.not_eq_false', beq_iff_eq, beq_eq_false_iff_ne, Bool.not_true, Bool.not_false] at *; first | omega | simp_all; done)))) ⟨rfl, rfl, rfl, rfl, rfl, rfl, trivial⟩ (by repeat first | exact sLn _ | apply sLc | apply sLd)
            · skip
              refine at_skip rfl rfl hb12 rfl ?_
              refine at_skip rfl rfl hb12 rfl ?_
              refine at_skip rfl rfl hb12 rfl ?_
              refine at_skip rfl rfl hb12 rfl ?_
              refine at_skip rfl rfl hb12 rfl ?_
              refine at_pure (pv_pick_f rfl hb12 rfl) rfl ?_
              refine at_pure (pv_move rfl) rfl ?_
              refine at_skip rfl rfl rfl rfl ?_
              refine at_skip rfl rfl rfl rfl ?_
              refine at_skip rfl rfl rfl rfl ?_
              refine at_skip rfl rfl rfl rfl ?_
              refine at_skip rfl rfl rfl rfl ?_
              refine at_pure (pv_pick_f rfl rfl rfl) rfl ?_
              refine at_pure (pv_move rfl) rfl ?_
              refine at_skip rfl rfl rfl rfl ?_
              refine at_skip rfl rfl rfl rfl ?_
              refine at_skip rfl rfl rfl rfl ?_
              refine at_skip rfl rfl rfl rfl ?_
              refine at_skip rfl rfl rfl rfl ?_
              refine at_pure (pv_pick_f rfl rfl rfl) rfl ?_
              refine at_nil ?_
              refine ex_go ?_
              refine cd_else rfl rfl ?_
              refine cd_skip ?_
              refine ex_in_normal ?_
              exact ex_meet (seen2 ++ [j2]) (hsn2.step hns2 hy (by by_cases he : placeI ns y.1 = placeI ns z.1; exact .inl he; exact .inr (overB_no (by simp only [decide_eq_true_eq, decide_eq_false_iff_not, bne_iff_ne, ne_eq, bne_eq_false_iff_eq, Bool.not_eq_true', Bool.not_eq_false', beq_iff_eq, beq_eq_false_iff_ne, Bool.not_true, Bool.not_false] at *; first | omega | simp_all; done)))) ⟨rfl, rfl, rfl, rfl, rfl, rfl, trivial⟩ (by repeat first | exact sLn _ | apply sLc | apply sLd)

theorem valid25_go (a b : Option Addr) (ca cb : Nat) (ns ls : List Q4) (c : Option Addr) (cc : Nat) (cs : List Int) (wk : Int) (d : Option Addr) (cd : Nat) (l : List Q4) (w : World) (hn : Sl [] enc4 4 w a ca ns) (hl : Sl [] enc4 4 w b cb ls) (hc : Sl [] enc1 1 w c cc cs) (hL : Sl [] enc4 4 w d cd l) : Calls Try.prog 15 [.agg #[.slice a ns.length ca, .slice b ls.length cb], .slice c cs.length cc, .int .i64 wk, .slice d l.length cd].toArray w (Val (.bool (schV ns ls cs wk l)) w) := by
  cases hp : problemS ns ls cs wk
  · exact valid25_no a b ca cb ns ls c cc cs wk d cd l w hn hl hc hL hp
  · exact valid25_yes a b ca cb ns ls c cc cs wk d cd l w hn hl hc hL hp

end Go.Proofs.Ytkejdfnpbkdllaa
