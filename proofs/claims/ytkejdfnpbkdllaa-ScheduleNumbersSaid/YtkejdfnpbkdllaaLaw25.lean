/- The laws ScheduleNumbers, ScheduleCompiles. -/
import Derived.Test.YtkejdfnpbkdllaaLaw25F
import Derived.Test.YtkejdfnpbkdllaaSch6
set_option linter.unusedVariables false
set_option linter.unusedSimpArgs false
set_option maxRecDepth 20000
namespace Go.Proofs.Ytkejdfnpbkdllaa
open Go Go.RowKit Go.Proofs.YtkejdfnpbkdllaaV
def exN : List Q4 := [(1, 1, 0, 1), (2, 1, 0, 1), (3, 3, 1, 1)]
def exL : List Q4 := [(1, 0, 3, 0), (2, 0, 3, 0)]
def exC : List Int := [5, 7, 1]
def exS : List Q4 := [(1, 0, 0, 5), (2, 1, 0, 7), (3, 0, 7, 8)]
theorem ex_comp : compO exN exL exC 2 = exS ∧ compE exN exL exC 2 = 0 ∧ spanS exS = 8 ∧ critS exN exL exC = 8 ∧ boundS exN exL exC 2 = 10 := by decide +kernel
theorem sane_compile (a b c : Option Addr) (ca cb cc : Nat) (w : World) (hn : Sl [] enc4 4 w a ca exN) (hl : Sl [] enc4 4 w b cb exL) (hc : Sl [] enc1 1 w c cc exC) : Calls Try.prog 17 [.agg #[.slice a 3 ca, .slice b 2 cb], .slice c 3 cc, .int .i64 2].toArray w (Gives (fun z : Option Addr × Nat => .tuple #[.slice z.1 3 z.2, .int .i64 0]) (fun z => [RowP enc4 4 39 z.1 z.2 exS]) w) := by
  have h := compile_full a b ca cb exN exL c cc exC 2 w hn hl hc
  rw [ex_comp.1, ex_comp.2.1] at h
  exact h
theorem sane_span (c : Option Addr) (cc : Nat) (w : World) (h : Sl [] enc4 4 w c cc exS) : Calls Try.prog 18 [.slice c 3 cc].toArray w (Val (.int .i64 8) w) := by
  have h := span_go c cc exS w h
  rw [ex_comp.2.2.1] at h
  exact h
theorem sane_crit (a b c : Option Addr) (ca cb cc : Nat) (w : World) (hn : Sl [] enc4 4 w a ca exN) (hl : Sl [] enc4 4 w b cb exL) (hc : Sl [] enc1 1 w c cc exC) : Calls Try.prog 19 [.agg #[.slice a 3 ca, .slice b 2 cb], .slice c 3 cc].toArray w (Val (.int .i64 8) w) := by
  have h := crit_full a b ca cb exN exL c cc exC w hn hl hc
  rw [ex_comp.2.2.2.1] at h
  exact h
theorem sane_bound (a b c : Option Addr) (ca cb cc : Nat) (w : World) (hn : Sl [] enc4 4 w a ca exN) (hl : Sl [] enc4 4 w b cb exL) (hc : Sl [] enc1 1 w c cc exC) : Calls Try.prog 20 [.agg #[.slice a 3 ca, .slice b 2 cb], .slice c 3 cc, .int .i64 2].toArray w (Val (.int .i64 10) w) := by
  have h := bound_full a b ca cb exN exL c cc exC 2 w hn hl hc
  rw [ex_comp.2.2.2.2] at h
  exact h

theorem sane_25  (w : World) : Calls Try.prog 10 [].toArray w (Val (.bool true) w) := by
  refine calls_body (n := 42) Try.func10 rfl rfl rfl (St.init _ []) ?_
  refine cd_seq ?_
  refine cd_region ?_
  refine at_pure (pv_assign rfl) rfl ?_
  refine at_nil ?_
  refine ex_go ?_
  refine cd_seq ?_
  refine cd_region ?_
  refine at_pure (pv_build rfl (bu_70_0_1_3 _ _ _)) rfl ?_
  refine at_pure (pv_build rfl (bu_70_0_1_3 _ _ _)) rfl ?_
  refine at_pure (pv_build rfl (bu_70_0_1_2_3 _ _ _ _)) rfl ?_
  refine at_does (does_list (by rfl) (by exact (bs_25_3_0_1_2 _ _ _ _ _ _ _ _ _ _ _ _)) (by exact (fun _ => .nil))) rfl (fun g1 => ?_)
  refine at_pure (pv_build rfl (bu_61_0_2 _ _)) rfl ?_
  refine at_pure (pv_build rfl (bu_61_0_2 _ _)) rfl ?_
  refine at_does (does_list (by rfl) (by exact (bs_26_2_0_1 _ _ _ _ _ _ _ _)) (by exact (fun _ => (.cons .nil)))) rfl (fun g2 => ?_)
  refine at_pure (pv_build rfl (bu_28_0_1 _ _ _ _ _ _)) rfl ?_
  refine at_does (does_alloc ze_28 .agg (fun _ => (.cons (.cons .nil)))) rfl (fun g3 => ?_)
  refine at_turns (by exact turns_store sz_28 rfl rfl .agg rfl rfl (.s (.s .z)) (.rep (.rep .done)) (.s (.s .z))) ?_
  refine at_nil ?_
  refine ex_go ?_
  refine cd_seq ?_
  refine cd_region ?_
  refine at_pure (by exact pv_loads_box ag_28 rfl (.s (.s .z)) (.take (.take .done))) rfl ?_
  refine at_does (does_list (by rfl) (by exact (bs_22_3_0_1_2 _ _ _)) (by exact (fun _ => (.cons (.cons (.cons .nil)))))) rfl (fun g4 => ?_)
  refine at_does (does_gives (X := Option Addr × Nat) (val := fun z => .tuple #[.slice z.1 3 z.2, .int .i64 0]) (Δ := fun z => [RowP enc4 4 39 z.1 z.2 exS]) cal17 rfl rfl rfl (fun w hs => by have h9 := sane_compile _ _ _ _ _ _ w (hs.boxes (xs := exN) len4 .z rfl (by decide)) (hs.boxes (xs := exL) len4 (.s .z) rfl (by decide)) (hs.boxes (xs := exC) len1 (.s (.s (.s .z))) rfl (by decide)); exact h9) (fun _ => (.cons (.cons (.cons (.cons .nil)))))) rfl (fun z9 => ?_)
  refine at_pure (pv_move rfl) rfl ?_
  refine at_pure (pv_extract rfl rfl) rfl ?_
  refine at_pure (pv_extract rfl rfl) rfl ?_
  refine at_pure (pv_assign rfl) rfl ?_
  refine at_pure (pv_assign rfl) rfl ?_
  refine at_nil ?_
  refine ex_go ?_
  refine cd_seq ?_
  refine cd_region ?_
  refine at_pure (pv_move rfl) rfl ?_
  refine at_pure (pv_eql rfl rfl) rfl ?_
  refine at_pure (pv_move rfl) rfl ?_
  refine at_pure_g rfl rfl (by decide) (pv_move rfl) rfl ?_
  refine at_pure_g rfl rfl (by decide) (pv_len Try.underlying23 rfl) rfl ?_
  refine at_pure_g rfl rfl (by decide) (pv_eql rfl rfl) rfl ?_
  refine at_pure (pv_pick_t rfl (by decide) rfl) rfl ?_
  refine at_pure (pv_move rfl) rfl ?_
  refine at_pure_g rfl rfl (by decide) (pv_move rfl) rfl ?_
  refine at_does_g rfl rfl (by decide) (does_val cal18 rfl rfl rfl (fun w hs => sane_span z9.1 z9.2 w (hs.rows len4 (by decide) (.s (.s (.s (.s .z))))))) rfl (fun _ => ?_)
  refine at_pure_g rfl rfl (by decide) (pv_eql rfl rfl) rfl ?_
  refine at_pure (pv_pick_t rfl (by decide) rfl) rfl ?_
  refine at_pure (pv_move rfl) rfl ?_
  refine at_pure_g rfl rfl (by decide) (by exact pv_loads_box ag_28 rfl (.s (.s .z)) (.take (.take .done))) rfl ?_
  refine at_does_g rfl rfl (by decide) (does_list (by rfl) (by exact (bs_22_3_0_1_2 _ _ _)) (by exact (fun _ => (.cons (.cons (.cons (.cons (.cons .nil)))))))) rfl (fun g5 => ?_)
  refine at_does_g rfl rfl (by decide) (does_val cal19 rfl rfl rfl (fun w hs => sane_crit _ _ _ _ _ _ w (hs.boxes (xs := exN) len4 .z rfl (by decide)) (hs.boxes (xs := exL) len4 (.s .z) rfl (by decide)) (hs.boxes (xs := exC) len1 (.s (.s (.s (.s (.s .z))))) rfl (by decide)))) rfl (fun _ => ?_)
  refine at_pure_g rfl rfl (by decide) (pv_eql rfl rfl) rfl ?_
  refine at_pure (pv_pick_t rfl (by decide) rfl) rfl ?_
  refine at_pure (pv_move rfl) rfl ?_
  refine at_pure_g rfl rfl (by decide) (by exact pv_loads_box ag_28 rfl (.s (.s .z)) (.take (.take .done))) rfl ?_
  refine at_does_g rfl rfl (by decide) (does_list (by rfl) (by exact (bs_22_3_0_1_2 _ _ _)) (by exact (fun _ => (.cons (.cons (.cons (.cons (.cons (.cons .nil))))))))) rfl (fun g6 => ?_)
  refine at_does_g rfl rfl (by decide) (does_val cal20 rfl rfl rfl (fun w hs => sane_bound _ _ _ _ _ _ w (hs.boxes (xs := exN) len4 .z rfl (by decide)) (hs.boxes (xs := exL) len4 (.s .z) rfl (by decide)) (hs.boxes (xs := exC) len1 (.s (.s (.s (.s (.s (.s .z)))))) rfl (by decide)))) rfl (fun _ => ?_)
  refine at_pure_g rfl rfl (by decide) (pv_eql rfl rfl) rfl ?_
  refine at_pure (pv_pick_t rfl (by decide) rfl) rfl ?_
  refine at_pure (pv_assign rfl) rfl ?_
  refine at_nil ?_
  refine ex_go ?_
  refine cd_ret ?_
  exact end_ret1 rfl rfl (fun w hs => ⟨rfl, hs.keep⟩)

theorem scheduleNumbers_any (a0 : Option Addr) (len0 cap0 : Nat) (c1 : Option Addr) (cc1 : Nat) (raw : List Q4) (a b : Option Addr) (ca cb : Nat) (ns ls : List Q4) (c : Option Addr) (cc : Nat) (cs : List Int) (wk : Int) (w : World) (hI : Ints [] w a0 len0) (hlen : len0 ≤ 17592186044416) (hraw : Sl [] enc4 4 w c1 cc1 raw) (hn : Sl [] enc4 4 w a ca ns) (hl : Sl [] enc4 4 w b cb ls) (hc : Sl [] enc1 1 w c cc cs) : Calls Try.prog 8 [.slice a0 len0 cap0, .slice c1 raw.length cc1, .agg #[.slice a ns.length ca, .slice b ls.length cb], .slice c cs.length cc, .int .i64 wk].toArray w (Val (.bool true) w) := by
  refine calls_body (n := 98) Try.func8 rfl rfl rfl (St.init _ []) ?_
  refine cd_seq ?_
  refine cd_region ?_
  refine at_does (does_box rfl .agg (fun _ => .nil)) rfl (fun g1 => ?_)
  refine at_pure (pv_assign rfl) rfl ?_
  refine at_nil ?_
  refine ex_go ?_
  refine cd_seq ?_
  refine cd_seq ?_
  refine cd_region ?_
  refine at_does (does_val cal10 rfl rfl rfl (fun w hs => sane_25 w)) rfl (fun _ => ?_)
  refine at_pure (pv_not rfl) rfl ?_
  refine at_nil ?_
  refine ex_go ?_
  refine cd_else rfl rfl ?_
  refine cd_skip ?_
  refine ex_go ?_
  refine cd_seq ?_
  refine cd_seq ?_
  refine cd_region ?_
  refine at_pure (pv_move rfl) rfl ?_
  refine at_pure (pv_len Try.underlying23 rfl) rfl ?_
  refine at_pure (pv_gtr rfl rfl) rfl ?_
  refine at_pure (pv_move rfl) rfl ?_
  refine at_split 19 rfl (fun hb1 => ?_) (fun hb1 => ?_)
  · skip
    refine at_skip rfl rfl hb1 rfl ?_
    refine at_skip rfl rfl hb1 rfl ?_
    refine at_skip rfl rfl hb1 rfl ?_
    refine at_skip rfl rfl hb1 rfl ?_
    refine at_pure (pv_pick_t rfl hb1 rfl) rfl ?_
    refine at_pure (pv_move rfl) rfl ?_
    refine at_skip rfl rfl rfl rfl ?_
    refine at_skip rfl rfl rfl rfl ?_
    refine at_skip rfl rfl rfl rfl ?_
    refine at_skip rfl rfl rfl rfl ?_
    refine at_pure (pv_pick_t rfl rfl rfl) rfl ?_
    refine at_pure (pv_move rfl) rfl ?_
    refine at_skip rfl rfl rfl rfl ?_
    refine at_skip rfl rfl rfl rfl ?_
    refine at_skip rfl rfl rfl rfl ?_
    refine at_pure (pv_pick_t rfl rfl rfl) rfl ?_
    refine at_nil ?_
    refine ex_go ?_
    refine cd_then rfl rfl ?_
    refine cd_seq ?_
    refine cd_region ?_
    refine at_pure (pv_assign rfl) rfl ?_
    refine at_nil ?_
    refine ex_go ?_
    refine cd_ret ?_
    refine ex_then_ret ?_
    exact end_ret1 rfl rfl (fun w hs => ⟨rfl, hs.keep⟩)
  · skip
    refine at_pure_g rfl rfl hb1 (pv_field0 fa_28_0 rfl (r := 0) rfl) rfl ?_
    refine at_pure_g rfl rfl hb1 (by exact pv_load ld_25 rfl (box_cell .z .z)) rfl ?_
    refine at_pure_g rfl rfl hb1 (pv_len Try.underlying25 rfl) rfl ?_
    refine at_pure_g rfl rfl hb1 (pv_gtr rfl rfl) rfl ?_
    refine at_pure (pv_pick_f rfl hb1 rfl) rfl ?_
    refine at_pure (pv_move rfl) rfl ?_
    refine at_split 25 rfl (fun hb2 => ?_) (fun hb2 => ?_)
    · skip
      refine at_skip rfl rfl hb2 rfl ?_
      refine at_skip rfl rfl hb2 rfl ?_
      refine at_skip rfl rfl hb2 rfl ?_
      refine at_skip rfl rfl hb2 rfl ?_
      refine at_pure (pv_pick_t rfl hb2 rfl) rfl ?_
      refine at_pure (pv_move rfl) rfl ?_
      refine at_skip rfl rfl rfl rfl ?_
      refine at_skip rfl rfl rfl rfl ?_
      refine at_skip rfl rfl rfl rfl ?_
      refine at_pure (pv_pick_t rfl rfl rfl) rfl ?_
      refine at_nil ?_
      refine ex_go ?_
      refine cd_then rfl rfl ?_
      refine cd_seq ?_
      refine cd_region ?_
      refine at_pure (pv_assign rfl) rfl ?_
      refine at_nil ?_
      refine ex_go ?_
      refine cd_ret ?_
      refine ex_then_ret ?_
      exact end_ret1 rfl rfl (fun w hs => ⟨rfl, hs.keep⟩)
    · skip
      refine at_pure_g rfl rfl hb2 (pv_field0 fa_28_1 rfl (r := 1) rfl) rfl ?_
      refine at_pure_g rfl rfl hb2 (by exact pv_load ld_26 rfl (box_cell .z (.s .z))) rfl ?_
      refine at_pure_g rfl rfl hb2 (pv_len Try.underlying26 rfl) rfl ?_
      refine at_pure_g rfl rfl hb2 (pv_gtr rfl rfl) rfl ?_
      refine at_pure (pv_pick_f rfl hb2 rfl) rfl ?_
      refine at_pure (pv_move rfl) rfl ?_
      refine at_split 31 rfl (fun hb3 => ?_) (fun hb3 => ?_)
      · skip
        refine at_skip rfl rfl hb3 rfl ?_
        refine at_skip rfl rfl hb3 rfl ?_
        refine at_skip rfl rfl hb3 rfl ?_
        refine at_pure (pv_pick_t rfl hb3 rfl) rfl ?_
        refine at_nil ?_
        refine ex_go ?_
        refine cd_then rfl rfl ?_
        refine cd_seq ?_
        refine cd_region ?_
        refine at_pure (pv_assign rfl) rfl ?_
        refine at_nil ?_
        refine ex_go ?_
        refine cd_ret ?_
        refine ex_then_ret ?_
        exact end_ret1 rfl rfl (fun w hs => ⟨rfl, hs.keep⟩)
      · skip
        refine at_pure_g rfl rfl hb3 (pv_move rfl) rfl ?_
        refine at_pure_g rfl rfl hb3 (pv_len Try.underlying22 rfl) rfl ?_
        refine at_pure_g rfl rfl hb3 (pv_gtr rfl rfl) rfl ?_
        refine at_pure (pv_pick_f rfl hb3 rfl) rfl ?_
        refine at_nil ?_
        refine ex_go ?_
        refine cd_if rfl (fun hb4 => ?_) (fun hb4 => ?_)
        · skip
          refine cd_seq ?_
          refine cd_region ?_
          refine at_pure (pv_assign rfl) rfl ?_
          refine at_nil ?_
          refine ex_go ?_
          refine cd_ret ?_
          refine ex_then_ret ?_
          exact end_ret1 rfl rfl (fun w hs => ⟨rfl, hs.keep⟩)
        · skip
          refine cd_skip ?_
          refine ex_go ?_
          refine cd_seq ?_
          refine cd_region ?_
          refine at_pure (pv_move rfl) rfl ?_
          refine at_does (does_gives (X := Nat) (val := fun g => Value.pointer (some ⟨g, 0, none⟩)) (Δ := fun g => [Box g [.slice a0 len0 cap0, .int .i64 0] 76]) cal12 rfl rfl rfl (fun w hs => by have h9 := deck_new a0 len0 cap0 w; exact h9) (fun _ => (.cons .nil))) rfl (fun gd => ?_)
          refine at_mades (does_mades (X := MZ) (val := fun z => .tuple #[.agg #[.slice z.an z.ns.length z.cn, .slice z.al z.ls.length z.cl], .slice z.ac z.cs.length z.cc]) (Δ := fun z => [RowP enc4 4 70 z.an z.cn z.ns, RowP enc4 4 61 z.al z.cl z.ls, RowP enc1 1 3 z.ac z.cc z.cs]) (good := MillOk) cal11 rfl rfl rfl (.s .z) (fun w hs => by have h9 := graph_any gd a0 len0 cap0 0 w (hs.box (i := 1) rfl) (hI.beside hs (.s .z)) (by omega) hlen; exact h9) (fun _ => rfl)) rfl (fun z hz => ?_)
          refine at_pure (pv_move rfl) rfl ?_
          refine at_pure (pv_extract rfl rfl) rfl ?_
          refine at_pure (pv_extract rfl rfl) rfl ?_
          refine at_does (does_alloc ze_28 .agg (fun _ => (.cons (.cons (.cons (.cons .nil)))))) rfl (fun g13 => ?_)
          refine at_turns (by exact turns_store sz_28 rfl rfl .agg rfl rfl (.s (.s (.s (.s .z)))) (.rep (.rep .done)) (.s (.s (.s (.s .z))))) ?_
          refine at_pure (pv_assign rfl) rfl ?_
          refine at_nil ?_
          refine ex_go ?_
          refine cd_seq ?_
          refine cd_region ?_
          refine at_pure (pv_move rfl) rfl ?_
          refine at_does (does_val cal13 rfl rfl rfl (fun w hs => mod_any _ _ w (by decide))) rfl (fun _ => ?_)
          refine at_pure (pv_assign rfl) rfl ?_
          refine at_nil ?_
          refine ex_go ?_
          refine cd_seq ?_
          refine cd_draw' 54 follows ?_
          refine dr_take 0 rfl (by kernel_rfl) (by first | exact List.Sublist.refl _ | (repeat first | exact List.Sublist.slnil | exact List.nil_sublist _ | apply List.Sublist.cons_cons | apply List.Sublist.cons)) (pv_move rfl) rfl ?_
          refine dr_take 2 rfl (by kernel_rfl) (by first | exact List.Sublist.refl _ | (repeat first | exact List.Sublist.slnil | exact List.nil_sublist _ | apply List.Sublist.cons_cons | apply List.Sublist.cons)) (pv_move rfl) rfl ?_
          refine dr_one 1 (by kernel_rfl) rfl ?_
          refine at_does (does_val cal18 rfl rfl rfl (fun w hs => span_go c1 cc1 raw w (hraw.at' hs))) rfl (fun _ => ?_)
          refine at_nil (dr_next (fun _ => (by first | exact List.Sublist.refl _ | (repeat first | exact List.Sublist.slnil | exact List.nil_sublist _ | apply List.Sublist.cons_cons | apply List.Sublist.cons))) ?_)
          refine dr_one 3 (by kernel_rfl) rfl ?_
          refine at_does (does_val cal28 rfl rfl rfl (fun w hs => span_ref c1 cc1 raw w (hraw.at' hs))) rfl (fun _ => ?_)
          refine at_nil (dr_next (fun _ => (by first | exact List.Sublist.refl _ | (repeat first | exact List.Sublist.slnil | exact List.nil_sublist _ | apply List.Sublist.cons_cons | apply List.Sublist.cons))) ?_)
          refine dr_take 4 rfl (by kernel_rfl) (by first | exact List.Sublist.refl _ | (repeat first | exact List.Sublist.slnil | exact List.nil_sublist _ | apply List.Sublist.cons_cons | apply List.Sublist.cons)) (pv_eql_same rfl rfl) rfl ?_
          refine dr_take 5 rfl (by kernel_rfl) (by first | exact List.Sublist.refl _ | (repeat first | exact List.Sublist.slnil | exact List.nil_sublist _ | apply List.Sublist.cons_cons | apply List.Sublist.cons)) (pv_move rfl) rfl ?_
          refine dr_take_g 6 rfl rfl rfl rfl (by kernel_rfl) (by first | exact List.Sublist.refl _ | (repeat first | exact List.Sublist.slnil | exact List.nil_sublist _ | apply List.Sublist.cons_cons | apply List.Sublist.cons)) (by exact pv_loads_box ag_28 rfl (.s (.s (.s (.s .z)))) (.take (.take .done))) rfl ?_
          refine dr_take_g 7 rfl rfl rfl rfl (by kernel_rfl) (by first | exact List.Sublist.refl _ | (repeat first | exact List.Sublist.slnil | exact List.nil_sublist _ | apply List.Sublist.cons_cons | apply List.Sublist.cons)) (pv_move rfl) rfl ?_
          refine dr_take_g 9 rfl rfl rfl rfl (by kernel_rfl) (by first | exact List.Sublist.refl _ | (repeat first | exact List.Sublist.slnil | exact List.nil_sublist _ | apply List.Sublist.cons_cons | apply List.Sublist.cons)) (by exact pv_loads_box ag_28 rfl (.s (.s (.s (.s .z)))) (.take (.take .done))) rfl ?_
          refine dr_take_g 10 rfl rfl rfl rfl (by kernel_rfl) (by first | exact List.Sublist.refl _ | (repeat first | exact List.Sublist.slnil | exact List.nil_sublist _ | apply List.Sublist.cons_cons | apply List.Sublist.cons)) (pv_move rfl) rfl ?_
          refine dr_one 8 (by kernel_rfl) rfl ?_
          refine at_does_g rfl rfl rfl (does_val cal19 rfl rfl rfl (fun w hs => crit_full z.an z.al z.cn z.cl z.ns z.ls z.ac z.cc z.cs w (hs.rows len4 (by decide) (.s .z)) (hs.rows len4 (by decide) (.s (.s .z))) (hs.rows len1 (by decide) (.s (.s (.s .z)))))) rfl (fun _ => ?_)
          refine at_nil (dr_next (fun _ => (by first | exact List.Sublist.refl _ | (repeat first | exact List.Sublist.slnil | exact List.nil_sublist _ | apply List.Sublist.cons_cons | apply List.Sublist.cons))) ?_)
          refine dr_one 11 (by kernel_rfl) rfl ?_
          refine at_does_g rfl rfl rfl (does_val cal29 rfl rfl rfl (fun w hs => critical_ref z.an z.al z.cn z.cl z.ns z.ls z.ac z.cc z.cs w (hs.rows len4 (by decide) (.s .z)) (hs.rows len4 (by decide) (.s (.s .z))) (hs.rows len1 (by decide) (.s (.s (.s .z)))))) rfl (fun _ => ?_)
          refine at_nil (dr_next (fun _ => (by first | exact List.Sublist.refl _ | (repeat first | exact List.Sublist.slnil | exact List.nil_sublist _ | apply List.Sublist.cons_cons | apply List.Sublist.cons))) ?_)
          refine dr_take_g 12 rfl rfl rfl rfl (by kernel_rfl) (by first | exact List.Sublist.refl _ | (repeat first | exact List.Sublist.slnil | exact List.nil_sublist _ | apply List.Sublist.cons_cons | apply List.Sublist.cons)) (pv_eql_same rfl rfl) rfl ?_
          refine dr_take 13 rfl (by kernel_rfl) (by first | exact List.Sublist.refl _ | (repeat first | exact List.Sublist.slnil | exact List.nil_sublist _ | apply List.Sublist.cons_cons | apply List.Sublist.cons)) (pv_pick_t rfl rfl rfl) rfl ?_
          refine dr_take 14 rfl (by kernel_rfl) (by first | exact List.Sublist.refl _ | (repeat first | exact List.Sublist.slnil | exact List.nil_sublist _ | apply List.Sublist.cons_cons | apply List.Sublist.cons)) (pv_move rfl) rfl ?_
          refine dr_take_g 15 rfl rfl rfl rfl (by kernel_rfl) (by first | exact List.Sublist.refl _ | (repeat first | exact List.Sublist.slnil | exact List.nil_sublist _ | apply List.Sublist.cons_cons | apply List.Sublist.cons)) (by exact pv_loads_box ag_28 rfl (.s (.s (.s (.s .z)))) (.take (.take .done))) rfl ?_
          refine dr_take_g 16 rfl rfl rfl rfl (by kernel_rfl) (by first | exact List.Sublist.refl _ | (repeat first | exact List.Sublist.slnil | exact List.nil_sublist _ | apply List.Sublist.cons_cons | apply List.Sublist.cons)) (pv_move rfl) rfl ?_
          refine dr_take_g 17 rfl rfl rfl rfl (by kernel_rfl) (by first | exact List.Sublist.refl _ | (repeat first | exact List.Sublist.slnil | exact List.nil_sublist _ | apply List.Sublist.cons_cons | apply List.Sublist.cons)) (pv_move rfl) rfl ?_
          refine dr_take_g 19 rfl rfl rfl rfl (by kernel_rfl) (by first | exact List.Sublist.refl _ | (repeat first | exact List.Sublist.slnil | exact List.nil_sublist _ | apply List.Sublist.cons_cons | apply List.Sublist.cons)) (by exact pv_loads_box ag_28 rfl (.s (.s (.s (.s .z)))) (.take (.take .done))) rfl ?_
          refine dr_take_g 20 rfl rfl rfl rfl (by kernel_rfl) (by first | exact List.Sublist.refl _ | (repeat first | exact List.Sublist.slnil | exact List.nil_sublist _ | apply List.Sublist.cons_cons | apply List.Sublist.cons)) (pv_move rfl) rfl ?_
          refine dr_take_g 21 rfl rfl rfl rfl (by kernel_rfl) (by first | exact List.Sublist.refl _ | (repeat first | exact List.Sublist.slnil | exact List.nil_sublist _ | apply List.Sublist.cons_cons | apply List.Sublist.cons)) (pv_move rfl) rfl ?_
          refine dr_one 18 (by kernel_rfl) rfl ?_
          refine at_does_g rfl rfl rfl (does_val cal20 rfl rfl rfl (fun w hs => bound_full z.an z.al z.cn z.cl z.ns z.ls z.ac z.cc z.cs (wk % 10) w (hs.rows len4 (by decide) (.s .z)) (hs.rows len4 (by decide) (.s (.s .z))) (hs.rows len1 (by decide) (.s (.s (.s .z)))))) rfl (fun _ => ?_)
          refine at_nil (dr_next (fun _ => (by first | exact List.Sublist.refl _ | (repeat first | exact List.Sublist.slnil | exact List.nil_sublist _ | apply List.Sublist.cons_cons | apply List.Sublist.cons))) ?_)
          refine dr_one 22 (by kernel_rfl) rfl ?_
          refine at_does_g rfl rfl rfl (does_val cal30 rfl rfl rfl (fun w hs => bound_ref z.an z.al z.cn z.cl z.ns z.ls z.ac z.cc z.cs (wk % 10) w (hs.rows len4 (by decide) (.s .z)) (hs.rows len4 (by decide) (.s (.s .z))) (hs.rows len1 (by decide) (.s (.s (.s .z)))))) rfl (fun _ => ?_)
          refine at_nil (dr_next (fun _ => (by first | exact List.Sublist.refl _ | (repeat first | exact List.Sublist.slnil | exact List.nil_sublist _ | apply List.Sublist.cons_cons | apply List.Sublist.cons))) ?_)
          refine dr_take_g 23 rfl rfl rfl rfl (by kernel_rfl) (by first | exact List.Sublist.refl _ | (repeat first | exact List.Sublist.slnil | exact List.nil_sublist _ | apply List.Sublist.cons_cons | apply List.Sublist.cons)) (pv_eql_same rfl rfl) rfl ?_
          refine dr_take 24 rfl (by kernel_rfl) (by first | exact List.Sublist.refl _ | (repeat first | exact List.Sublist.slnil | exact List.nil_sublist _ | apply List.Sublist.cons_cons | apply List.Sublist.cons)) (pv_pick_t rfl rfl rfl) rfl ?_
          refine dr_take 25 rfl (by kernel_rfl) (by first | exact List.Sublist.refl _ | (repeat first | exact List.Sublist.slnil | exact List.nil_sublist _ | apply List.Sublist.cons_cons | apply List.Sublist.cons)) (pv_move rfl) rfl ?_
          refine dr_take_g 26 rfl rfl rfl rfl (by kernel_rfl) (by first | exact List.Sublist.refl _ | (repeat first | exact List.Sublist.slnil | exact List.nil_sublist _ | apply List.Sublist.cons_cons | apply List.Sublist.cons)) (by exact pv_loads_box ag_28 rfl .z (.take (.take .done))) rfl ?_
          refine dr_take_g 27 rfl rfl rfl rfl (by kernel_rfl) (by first | exact List.Sublist.refl _ | (repeat first | exact List.Sublist.slnil | exact List.nil_sublist _ | apply List.Sublist.cons_cons | apply List.Sublist.cons)) (pv_move rfl) rfl ?_
          refine dr_take_g 29 rfl rfl rfl rfl (by kernel_rfl) (by first | exact List.Sublist.refl _ | (repeat first | exact List.Sublist.slnil | exact List.nil_sublist _ | apply List.Sublist.cons_cons | apply List.Sublist.cons)) (by exact pv_loads_box ag_28 rfl .z (.take (.take .done))) rfl ?_
          refine dr_take_g 30 rfl rfl rfl rfl (by kernel_rfl) (by first | exact List.Sublist.refl _ | (repeat first | exact List.Sublist.slnil | exact List.nil_sublist _ | apply List.Sublist.cons_cons | apply List.Sublist.cons)) (pv_move rfl) rfl ?_
          refine dr_one 28 (by kernel_rfl) rfl ?_
          refine at_does_g rfl rfl rfl (does_val cal19 rfl rfl rfl (fun w hs => crit_full a b ca cb ns ls c cc cs w (hn.at' hs) (hl.at' hs) (hc.at' hs))) rfl (fun _ => ?_)
          refine at_nil (dr_next (fun _ => (by first | exact List.Sublist.refl _ | (repeat first | exact List.Sublist.slnil | exact List.nil_sublist _ | apply List.Sublist.cons_cons | apply List.Sublist.cons))) ?_)
          refine dr_one 31 (by kernel_rfl) rfl ?_
          refine at_does_g rfl rfl rfl (does_val cal29 rfl rfl rfl (fun w hs => critical_ref a b ca cb ns ls c cc cs w (hn.at' hs) (hl.at' hs) (hc.at' hs))) rfl (fun _ => ?_)
          refine at_nil (dr_next (fun _ => (by first | exact List.Sublist.refl _ | (repeat first | exact List.Sublist.slnil | exact List.nil_sublist _ | apply List.Sublist.cons_cons | apply List.Sublist.cons))) ?_)
          refine dr_take_g 32 rfl rfl rfl rfl (by kernel_rfl) (by first | exact List.Sublist.refl _ | (repeat first | exact List.Sublist.slnil | exact List.nil_sublist _ | apply List.Sublist.cons_cons | apply List.Sublist.cons)) (pv_eql_same rfl rfl) rfl ?_
          refine dr_take 33 rfl (by kernel_rfl) (by first | exact List.Sublist.refl _ | (repeat first | exact List.Sublist.slnil | exact List.nil_sublist _ | apply List.Sublist.cons_cons | apply List.Sublist.cons)) (pv_pick_t rfl rfl rfl) rfl ?_
          refine dr_take 34 rfl (by kernel_rfl) (by first | exact List.Sublist.refl _ | (repeat first | exact List.Sublist.slnil | exact List.nil_sublist _ | apply List.Sublist.cons_cons | apply List.Sublist.cons)) (pv_move rfl) rfl ?_
          refine dr_take_g 35 rfl rfl rfl rfl (by kernel_rfl) (by first | exact List.Sublist.refl _ | (repeat first | exact List.Sublist.slnil | exact List.nil_sublist _ | apply List.Sublist.cons_cons | apply List.Sublist.cons)) (by exact pv_loads_box ag_28 rfl .z (.take (.take .done))) rfl ?_
          refine dr_take_g 36 rfl rfl rfl rfl (by kernel_rfl) (by first | exact List.Sublist.refl _ | (repeat first | exact List.Sublist.slnil | exact List.nil_sublist _ | apply List.Sublist.cons_cons | apply List.Sublist.cons)) (pv_move rfl) rfl ?_
          refine dr_take_g 37 rfl rfl rfl rfl (by kernel_rfl) (by first | exact List.Sublist.refl _ | (repeat first | exact List.Sublist.slnil | exact List.nil_sublist _ | apply List.Sublist.cons_cons | apply List.Sublist.cons)) (pv_move rfl) rfl ?_
          refine dr_take_g 39 rfl rfl rfl rfl (by kernel_rfl) (by first | exact List.Sublist.refl _ | (repeat first | exact List.Sublist.slnil | exact List.nil_sublist _ | apply List.Sublist.cons_cons | apply List.Sublist.cons)) (by exact pv_loads_box ag_28 rfl .z (.take (.take .done))) rfl ?_
          refine dr_take_g 40 rfl rfl rfl rfl (by kernel_rfl) (by first | exact List.Sublist.refl _ | (repeat first | exact List.Sublist.slnil | exact List.nil_sublist _ | apply List.Sublist.cons_cons | apply List.Sublist.cons)) (pv_move rfl) rfl ?_
          refine dr_take_g 41 rfl rfl rfl rfl (by kernel_rfl) (by first | exact List.Sublist.refl _ | (repeat first | exact List.Sublist.slnil | exact List.nil_sublist _ | apply List.Sublist.cons_cons | apply List.Sublist.cons)) (pv_move rfl) rfl ?_
          refine dr_one 38 (by kernel_rfl) rfl ?_
          refine at_does_g rfl rfl rfl (does_val cal20 rfl rfl rfl (fun w hs => bound_full a b ca cb ns ls c cc cs (wk) w (hn.at' hs) (hl.at' hs) (hc.at' hs))) rfl (fun _ => ?_)
          refine at_nil (dr_next (fun _ => (by first | exact List.Sublist.refl _ | (repeat first | exact List.Sublist.slnil | exact List.nil_sublist _ | apply List.Sublist.cons_cons | apply List.Sublist.cons))) ?_)
          refine dr_one 42 (by kernel_rfl) rfl ?_
          refine at_does_g rfl rfl rfl (does_val cal30 rfl rfl rfl (fun w hs => bound_ref a b ca cb ns ls c cc cs (wk) w (hn.at' hs) (hl.at' hs) (hc.at' hs))) rfl (fun _ => ?_)
          refine at_nil (dr_next (fun _ => (by first | exact List.Sublist.refl _ | (repeat first | exact List.Sublist.slnil | exact List.nil_sublist _ | apply List.Sublist.cons_cons | apply List.Sublist.cons))) ?_)
          refine dr_take_g 43 rfl rfl rfl rfl (by kernel_rfl) (by first | exact List.Sublist.refl _ | (repeat first | exact List.Sublist.slnil | exact List.nil_sublist _ | apply List.Sublist.cons_cons | apply List.Sublist.cons)) (pv_eql_same rfl rfl) rfl ?_
          refine dr_take 44 rfl (by kernel_rfl) (by first | exact List.Sublist.refl _ | (repeat first | exact List.Sublist.slnil | exact List.nil_sublist _ | apply List.Sublist.cons_cons | apply List.Sublist.cons)) (pv_pick_t rfl rfl rfl) rfl ?_
          refine dr_take 45 rfl (by kernel_rfl) (by first | exact List.Sublist.refl _ | (repeat first | exact List.Sublist.slnil | exact List.nil_sublist _ | apply List.Sublist.cons_cons | apply List.Sublist.cons)) (pv_move rfl) rfl ?_
          refine dr_take_g 46 rfl rfl rfl rfl (by kernel_rfl) (by first | exact List.Sublist.refl _ | (repeat first | exact List.Sublist.slnil | exact List.nil_sublist _ | apply List.Sublist.cons_cons | apply List.Sublist.cons)) (by exact pv_loads_box ag_28 rfl (.s (.s (.s (.s .z)))) (.take (.take .done))) rfl ?_
          refine dr_take_g 47 rfl rfl rfl rfl (by kernel_rfl) (by first | exact List.Sublist.refl _ | (repeat first | exact List.Sublist.slnil | exact List.nil_sublist _ | apply List.Sublist.cons_cons | apply List.Sublist.cons)) (pv_move rfl) rfl ?_
          refine dr_take_g 49 rfl rfl rfl rfl (by kernel_rfl) (by first | exact List.Sublist.refl _ | (repeat first | exact List.Sublist.slnil | exact List.nil_sublist _ | apply List.Sublist.cons_cons | apply List.Sublist.cons)) (by exact pv_loads_box ag_28 rfl (.s (.s (.s (.s .z)))) (.take (.take .done))) rfl ?_
          refine dr_take_g 50 rfl rfl rfl rfl (by kernel_rfl) (by first | exact List.Sublist.refl _ | (repeat first | exact List.Sublist.slnil | exact List.nil_sublist _ | apply List.Sublist.cons_cons | apply List.Sublist.cons)) (pv_move rfl) rfl ?_
          refine dr_one 48 (by kernel_rfl) rfl ?_
          refine at_does_g rfl rfl rfl (does_val cal19 rfl rfl rfl (fun w hs => crit_full z.an z.al z.cn z.cl z.ns z.ls c cc cs w (hs.rows len4 (by decide) (.s .z)) (hs.rows len4 (by decide) (.s (.s .z))) (hc.at' hs))) rfl (fun _ => ?_)
          refine at_nil (dr_next (fun _ => (by first | exact List.Sublist.refl _ | (repeat first | exact List.Sublist.slnil | exact List.nil_sublist _ | apply List.Sublist.cons_cons | apply List.Sublist.cons))) ?_)
          refine dr_one 51 (by kernel_rfl) rfl ?_
          refine at_does_g rfl rfl rfl (does_val cal29 rfl rfl rfl (fun w hs => critical_ref z.an z.al z.cn z.cl z.ns z.ls c cc cs w (hs.rows len4 (by decide) (.s .z)) (hs.rows len4 (by decide) (.s (.s .z))) (hc.at' hs))) rfl (fun _ => ?_)
          refine at_nil (dr_next (fun _ => (by first | exact List.Sublist.refl _ | (repeat first | exact List.Sublist.slnil | exact List.nil_sublist _ | apply List.Sublist.cons_cons | apply List.Sublist.cons))) ?_)
          refine dr_take_g 52 rfl rfl rfl rfl (by kernel_rfl) (by first | exact List.Sublist.refl _ | (repeat first | exact List.Sublist.slnil | exact List.nil_sublist _ | apply List.Sublist.cons_cons | apply List.Sublist.cons)) (pv_eql_same rfl rfl) rfl ?_
          refine dr_take 53 rfl (by kernel_rfl) (by first | exact List.Sublist.refl _ | (repeat first | exact List.Sublist.slnil | exact List.nil_sublist _ | apply List.Sublist.cons_cons | apply List.Sublist.cons)) (pv_pick_t rfl rfl rfl) rfl ?_
          refine dr_one 54 (by kernel_rfl) rfl ?_
          refine at_pure (pv_assign rfl) rfl ?_
          refine at_nil (dr_next (fun h => by cases h) ?_)
          refine dr_done (by kernel_rfl) ?_
          refine ex_go ?_
          refine cd_ret ?_
          exact end_ret1 rfl rfl (fun w hs => ⟨rfl, hs.keep⟩)

set_option maxRecDepth 10000 in
set_option maxHeartbeats 4000000 in
theorem scheduleCompiles_any (a0 : Option Addr) (len0 cap0 : Nat) (a b : Option Addr) (ca cb : Nat) (ns ls : List Q4) (c : Option Addr) (cc : Nat) (cs : List Int) (wk : Int) (w : World) (hI : Ints [] w a0 len0) (hlen : len0 ≤ 17592186044416) (hn : Sl [] enc4 4 w a ca ns) (hl : Sl [] enc4 4 w b cb ls) (hc : Sl [] enc1 1 w c cc cs) : Calls Try.prog 7 [.slice a0 len0 cap0, .agg #[.slice a ns.length ca, .slice b ls.length cb], .slice c cs.length cc, .int .i64 wk].toArray w (Val (.bool true) w) := by
  refine calls_body (n := 132) Try.func7 rfl rfl rfl (St.init _ []) ?_
  refine cd_seq ?_
  refine cd_region ?_
  refine at_does (does_box rfl .agg (fun _ => .nil)) rfl (fun g1 => ?_)
  refine at_pure (pv_assign rfl) rfl ?_
  refine at_nil ?_
  refine ex_go ?_
  refine cd_seq ?_
  refine cd_seq ?_
  refine cd_region ?_
  refine at_does (does_val cal10 rfl rfl rfl (fun w hs => sane_25 w)) rfl (fun _ => ?_)
  refine at_pure (pv_not rfl) rfl ?_
  refine at_nil ?_
  refine ex_go ?_
  refine cd_else rfl rfl ?_
  refine cd_skip ?_
  refine ex_go ?_
  refine cd_seq ?_
  refine cd_seq ?_
  refine cd_region ?_
  refine at_pure (pv_field0 fa_28_0 rfl (r := 0) rfl) rfl ?_
  refine at_pure (by exact pv_load ld_25 rfl (box_cell .z .z)) rfl ?_
  refine at_pure (pv_len Try.underlying25 rfl) rfl ?_
  refine at_pure (pv_gtr rfl rfl) rfl ?_
  refine at_pure (pv_move rfl) rfl ?_
  refine at_split 31 rfl (fun hb1 => ?_) (fun hb1 => ?_)
  · skip
    refine at_skip rfl rfl hb1 rfl ?_
    refine at_skip rfl rfl hb1 rfl ?_
    refine at_skip rfl rfl hb1 rfl ?_
    refine at_skip rfl rfl hb1 rfl ?_
    refine at_pure (pv_pick_t rfl hb1 rfl) rfl ?_
    refine at_pure (pv_move rfl) rfl ?_
    refine at_skip rfl rfl rfl rfl ?_
    refine at_skip rfl rfl rfl rfl ?_
    refine at_skip rfl rfl rfl rfl ?_
    refine at_pure (pv_pick_t rfl rfl rfl) rfl ?_
    refine at_nil ?_
    refine ex_go ?_
    refine cd_then rfl rfl ?_
    refine cd_seq ?_
    refine cd_region ?_
    refine at_pure (pv_assign rfl) rfl ?_
    refine at_nil ?_
    refine ex_go ?_
    refine cd_ret ?_
    refine ex_then_ret ?_
    exact end_ret1 rfl rfl (fun w hs => ⟨rfl, hs.keep⟩)
  · skip
    refine at_pure_g rfl rfl hb1 (pv_field0 fa_28_1 rfl (r := 1) rfl) rfl ?_
    refine at_pure_g rfl rfl hb1 (by exact pv_load ld_26 rfl (box_cell .z (.s .z))) rfl ?_
    refine at_pure_g rfl rfl hb1 (pv_len Try.underlying26 rfl) rfl ?_
    refine at_pure_g rfl rfl hb1 (pv_gtr rfl rfl) rfl ?_
    refine at_pure (pv_pick_f rfl hb1 rfl) rfl ?_
    refine at_pure (pv_move rfl) rfl ?_
    refine at_split 37 rfl (fun hb2 => ?_) (fun hb2 => ?_)
    · skip
      refine at_skip rfl rfl hb2 rfl ?_
      refine at_skip rfl rfl hb2 rfl ?_
      refine at_skip rfl rfl hb2 rfl ?_
      refine at_pure (pv_pick_t rfl hb2 rfl) rfl ?_
      refine at_nil ?_
      refine ex_go ?_
      refine cd_then rfl rfl ?_
      refine cd_seq ?_
      refine cd_region ?_
      refine at_pure (pv_assign rfl) rfl ?_
      refine at_nil ?_
      refine ex_go ?_
      refine cd_ret ?_
      refine ex_then_ret ?_
      exact end_ret1 rfl rfl (fun w hs => ⟨rfl, hs.keep⟩)
    · skip
      refine at_pure_g rfl rfl hb2 (pv_move rfl) rfl ?_
      refine at_pure_g rfl rfl hb2 (pv_len Try.underlying22 rfl) rfl ?_
      refine at_pure_g rfl rfl hb2 (pv_gtr rfl rfl) rfl ?_
      refine at_pure (pv_pick_f rfl hb2 rfl) rfl ?_
      refine at_nil ?_
      refine ex_go ?_
      refine cd_if rfl (fun hb3 => ?_) (fun hb3 => ?_)
      · skip
        refine cd_seq ?_
        refine cd_region ?_
        refine at_pure (pv_assign rfl) rfl ?_
        refine at_nil ?_
        refine ex_go ?_
        refine cd_ret ?_
        refine ex_then_ret ?_
        exact end_ret1 rfl rfl (fun w hs => ⟨rfl, hs.keep⟩)
      · skip
        refine cd_skip ?_
        refine ex_go ?_
        refine cd_seq ?_
        refine cd_region ?_
        refine at_pure (pv_move rfl) rfl ?_
        refine at_does (does_gives (X := Nat) (val := fun g => Value.pointer (some ⟨g, 0, none⟩)) (Δ := fun g => [Box g [.slice a0 len0 cap0, .int .i64 0] 76]) cal12 rfl rfl rfl (fun w hs => by have h9 := deck_new a0 len0 cap0 w; exact h9) (fun _ => (.cons .nil))) rfl (fun gd => ?_)
        refine at_mades (does_mades (X := MZ) (val := fun z => .tuple #[.agg #[.slice z.an z.ns.length z.cn, .slice z.al z.ls.length z.cl], .slice z.ac z.cs.length z.cc]) (Δ := fun z => [RowP enc4 4 70 z.an z.cn z.ns, RowP enc4 4 61 z.al z.cl z.ls, RowP enc1 1 3 z.ac z.cc z.cs]) (good := MillOk) cal11 rfl rfl rfl (.s .z) (fun w hs => by have h9 := graph_any gd a0 len0 cap0 0 w (hs.box (i := 1) rfl) (hI.beside hs (.s .z)) (by omega) hlen; exact h9) (fun _ => rfl)) rfl (fun z hz => ?_)
        refine at_pure (pv_move rfl) rfl ?_
        refine at_pure (pv_extract rfl rfl) rfl ?_
        refine at_pure (pv_extract rfl rfl) rfl ?_
        refine at_does (does_alloc ze_28 .agg (fun _ => (.cons (.cons (.cons (.cons .nil)))))) rfl (fun g13 => ?_)
        refine at_turns (by exact turns_store sz_28 rfl rfl .agg rfl rfl (.s (.s (.s (.s .z)))) (.rep (.rep .done)) (.s (.s (.s (.s .z))))) ?_
        refine at_pure (pv_assign rfl) rfl ?_
        refine at_nil ?_
        refine ex_go ?_
        refine cd_seq ?_
        refine cd_seq ?_
        refine cd_region ?_
        refine at_pure (pv_move rfl) rfl ?_
        refine at_pure (pv_move rfl) rfl ?_
        refine at_does (does_val cal13 rfl rfl rfl (fun w hs => mod_any _ _ w (by decide))) rfl (fun _ => ?_)
        refine at_pure (by first | exact pv_add_n rfl rfl (by unfold In64; omega) | exact pv_add rfl rfl) rfl ?_
        refine at_does (does_list (by rfl) (by exact (bs_22_2_0_1 _ _)) (by exact (fun _ => (.cons (.cons (.cons (.cons (.cons .nil)))))))) rfl (fun g3 => ?_)
        refine at_pure (pv_len Try.underlying22 rfl) rfl ?_
        refine at_pure (pv_move rfl) rfl ?_
        refine at_nil ?_
        refine ex_go ?_
        refine cd_block ?_
        refine cd_rounds 2 ?_
        refine cd_seq ?_
        refine cd_region ?_
        refine at_pure (pv_lss rfl rfl) rfl ?_
        refine at_nil ?_
        refine ex_go ?_
        refine cd_seq ?_
        refine cd_then rfl (by decide) ?_
        refine cd_skip ?_
        refine ex_go ?_
        refine cd_seq ?_
        refine cd_block ?_
        refine cd_seq ?_
        refine cd_region ?_
        refine at_pure (pv_indexLit Try.underlying22 cz_3 rfl rfl (by decide) rfl) rfl ?_
        refine at_pure (by exact pv_load ld_3 rfl (box_cell (.s (.s (.s (.s (.s .z))))) .z)) rfl ?_
        refine at_pure (pv_assign rfl) rfl ?_
        refine at_nil ?_
        refine ex_go ?_
        refine cd_seq ?_
        refine cd_region ?_
        refine at_pure (by exact pv_loads_box ag_28 rfl (.s (.s (.s (.s .z)))) (.take (.take .done))) rfl ?_
        refine at_pure (pv_move rfl) rfl ?_
        refine at_pure (pv_move rfl) rfl ?_
        refine at_does (does_gives (X := Option Addr × Nat) (val := fun u => .tuple #[.slice u.1 (compO z.ns z.ls z.cs (wk)).length u.2, .int .i64 (compE z.ns z.ls z.cs (wk))]) (Δ := fun u => [RowP enc4 4 39 u.1 u.2 (compO z.ns z.ls z.cs (wk))]) cal17 rfl rfl rfl (fun w hs => by have h9 := compile_full z.an z.al z.cn z.cl z.ns z.ls z.ac z.cc z.cs (wk) w (hs.rows len4 (by decide) (.s .z)) (hs.rows len4 (by decide) (.s (.s .z))) (hs.rows len1 (by decide) (.s (.s (.s .z)))); exact h9) (fun _ => (.cons (.cons (.cons (.cons (.cons (.cons .nil)))))))) rfl (fun u9 => ?_)
        refine at_pure (pv_move rfl) rfl ?_
        refine at_pure (pv_extract rfl rfl) rfl ?_
        refine at_pure (pv_extract rfl rfl) rfl ?_
        refine at_pure (pv_assign rfl) rfl ?_
        refine at_pure (pv_assign rfl) rfl ?_
        refine at_nil ?_
        refine ex_go ?_
        refine cd_seq ?_
        refine cd_region ?_
        refine at_pure (by exact pv_loads_box ag_28 rfl (.s (.s (.s (.s .z)))) (.take (.take .done))) rfl ?_
        refine at_pure (pv_move rfl) rfl ?_
        refine at_pure (pv_move rfl) rfl ?_
        refine at_does (does_gives (X := Option Addr × Nat) (val := fun u => .tuple #[.slice u.1 (compO z.ns z.ls z.cs (wk)).length u.2, .int .i64 (compE z.ns z.ls z.cs (wk))]) (Δ := fun u => [RowP enc4 4 39 u.1 u.2 (compO z.ns z.ls z.cs (wk))]) cal14 rfl rfl rfl (fun w hs => by have h9 := compileR_full z.an z.al z.cn z.cl z.ns z.ls z.ac z.cc z.cs (wk) w (hs.rows len4 (by decide) (.s .z)) (hs.rows len4 (by decide) (.s (.s .z))) (hs.rows len1 (by decide) (.s (.s (.s .z)))); exact h9) (fun _ => (.cons (.cons (.cons (.cons (.cons (.cons (.cons .nil))))))))) rfl (fun u10 => ?_)
        refine at_pure (pv_move rfl) rfl ?_
        refine at_pure (pv_extract rfl rfl) rfl ?_
        refine at_pure (pv_extract rfl rfl) rfl ?_
        refine at_pure (pv_assign rfl) rfl ?_
        refine at_pure (pv_assign rfl) rfl ?_
        refine at_nil ?_
        refine ex_go ?_
        refine cd_seq ?_
        refine cd_region ?_
        refine at_pure (by exact pv_loads_box ag_28 rfl .z (.take (.take .done))) rfl ?_
        refine at_pure (pv_move rfl) rfl ?_
        refine at_pure (pv_move rfl) rfl ?_
        refine at_does (does_gives (X := Option Addr × Nat) (val := fun u => .tuple #[.slice u.1 (compO ns ls cs (wk)).length u.2, .int .i64 (compE ns ls cs (wk))]) (Δ := fun u => [RowP enc4 4 39 u.1 u.2 (compO ns ls cs (wk))]) cal17 rfl rfl rfl (fun w hs => by have h9 := compile_full a b ca cb ns ls c cc cs (wk) w (hn.at' hs) (hl.at' hs) (hc.at' hs); exact h9) (fun _ => (.cons (.cons (.cons (.cons (.cons (.cons (.cons (.cons .nil)))))))))) rfl (fun u11 => ?_)
        refine at_pure (pv_move rfl) rfl ?_
        refine at_pure (pv_extract rfl rfl) rfl ?_
        refine at_pure (pv_extract rfl rfl) rfl ?_
        refine at_pure (pv_assign rfl) rfl ?_
        refine at_pure (pv_assign rfl) rfl ?_
        refine at_nil ?_
        refine ex_go ?_
        refine cd_seq ?_
        refine cd_region ?_
        refine at_pure (by exact pv_loads_box ag_28 rfl .z (.take (.take .done))) rfl ?_
        refine at_pure (pv_move rfl) rfl ?_
        refine at_pure (pv_move rfl) rfl ?_
        refine at_does (does_gives (X := Option Addr × Nat) (val := fun u => .tuple #[.slice u.1 (compO ns ls cs (wk)).length u.2, .int .i64 (compE ns ls cs (wk))]) (Δ := fun u => [RowP enc4 4 39 u.1 u.2 (compO ns ls cs (wk))]) cal14 rfl rfl rfl (fun w hs => by have h9 := compileR_full a b ca cb ns ls c cc cs (wk) w (hn.at' hs) (hl.at' hs) (hc.at' hs); exact h9) (fun _ => (.cons (.cons (.cons (.cons (.cons (.cons (.cons (.cons (.cons .nil))))))))))) rfl (fun u12 => ?_)
        refine at_pure (pv_move rfl) rfl ?_
        refine at_pure (pv_extract rfl rfl) rfl ?_
        refine at_pure (pv_extract rfl rfl) rfl ?_
        refine at_pure (pv_assign rfl) rfl ?_
        refine at_pure (pv_assign rfl) rfl ?_
        refine at_nil ?_
        refine ex_go ?_
        refine cd_seq ?_
        refine cd_region ?_
        refine at_pure (by exact pv_loads_box ag_28 rfl (.s (.s (.s (.s .z)))) (.take (.take .done))) rfl ?_
        refine at_pure (pv_move rfl) rfl ?_
        refine at_pure (pv_move rfl) rfl ?_
        refine at_does (does_gives (X := Option Addr × Nat) (val := fun u => .tuple #[.slice u.1 (compO z.ns z.ls cs (wk)).length u.2, .int .i64 (compE z.ns z.ls cs (wk))]) (Δ := fun u => [RowP enc4 4 39 u.1 u.2 (compO z.ns z.ls cs (wk))]) cal17 rfl rfl rfl (fun w hs => by have h9 := compile_full z.an z.al z.cn z.cl z.ns z.ls c cc cs (wk) w (hs.rows len4 (by decide) (.s .z)) (hs.rows len4 (by decide) (.s (.s .z))) (hc.at' hs); exact h9) (fun _ => (.cons (.cons (.cons (.cons (.cons (.cons (.cons (.cons (.cons (.cons .nil)))))))))))) rfl (fun u13 => ?_)
        refine at_pure (pv_move rfl) rfl ?_
        refine at_pure (pv_extract rfl rfl) rfl ?_
        refine at_pure (pv_extract rfl rfl) rfl ?_
        refine at_pure (pv_assign rfl) rfl ?_
        refine at_pure (pv_assign rfl) rfl ?_
        refine at_nil ?_
        refine ex_go ?_
        refine cd_seq ?_
        refine cd_region ?_
        refine at_pure (by exact pv_loads_box ag_28 rfl (.s (.s (.s (.s .z)))) (.take (.take .done))) rfl ?_
        refine at_pure (pv_move rfl) rfl ?_
        refine at_pure (pv_move rfl) rfl ?_
        refine at_does (does_gives (X := Option Addr × Nat) (val := fun u => .tuple #[.slice u.1 (compO z.ns z.ls cs (wk)).length u.2, .int .i64 (compE z.ns z.ls cs (wk))]) (Δ := fun u => [RowP enc4 4 39 u.1 u.2 (compO z.ns z.ls cs (wk))]) cal14 rfl rfl rfl (fun w hs => by have h9 := compileR_full z.an z.al z.cn z.cl z.ns z.ls c cc cs (wk) w (hs.rows len4 (by decide) (.s .z)) (hs.rows len4 (by decide) (.s (.s .z))) (hc.at' hs); exact h9) (fun _ => (.cons (.cons (.cons (.cons (.cons (.cons (.cons (.cons (.cons (.cons (.cons .nil))))))))))))) rfl (fun u14 => ?_)
        refine at_pure (pv_move rfl) rfl ?_
        refine at_pure (pv_extract rfl rfl) rfl ?_
        refine at_pure (pv_extract rfl rfl) rfl ?_
        refine at_pure (pv_assign rfl) rfl ?_
        refine at_pure (pv_assign rfl) rfl ?_
        refine at_nil ?_
        refine ex_go ?_
        refine cd_seq ?_
        refine cd_region ?_
        refine at_pure (pv_move rfl) rfl ?_
        refine at_pure (pv_move rfl) rfl ?_
        refine at_pure (pv_neq_same rfl rfl) rfl ?_
        refine at_pure (pv_move rfl) rfl ?_
        refine at_pure_g rfl rfl rfl (pv_move rfl) rfl ?_
        refine at_pure_g rfl rfl rfl (pv_move rfl) rfl ?_
        refine at_pure_g rfl rfl rfl (pv_neq_same rfl rfl) rfl ?_
        refine at_pure (pv_pick_f rfl rfl rfl) rfl ?_
        refine at_pure (pv_move rfl) rfl ?_
        refine at_pure_g rfl rfl rfl (pv_move rfl) rfl ?_
        refine at_pure_g rfl rfl rfl (pv_move rfl) rfl ?_
        refine at_pure_g rfl rfl rfl (pv_neq_same rfl rfl) rfl ?_
        refine at_pure (pv_pick_f rfl rfl rfl) rfl ?_
        refine at_pure (pv_move rfl) rfl ?_
        refine at_pure_g rfl rfl rfl (pv_move rfl) rfl ?_
        refine at_pure_g rfl rfl rfl (pv_move rfl) rfl ?_
        refine at_does_g rfl rfl rfl (does_val cal27 rfl rfl rfl (fun w hs => same_ref u9.1 u10.1 u9.2 u10.2 (compO z.ns z.ls z.cs (wk)) w (hs.rows len4 (by decide) (.s (.s (.s (.s (.s (.s .z))))))) (hs.rows len4 (by decide) (.s (.s (.s (.s (.s (.s (.s .z)))))))))) rfl (fun _ => ?_)
        refine at_pure_g rfl rfl rfl (pv_not rfl) rfl ?_
        refine at_pure (pv_pick_f rfl rfl rfl) rfl ?_
        refine at_pure (pv_move rfl) rfl ?_
        refine at_pure_g rfl rfl rfl (pv_move rfl) rfl ?_
        refine at_pure_g rfl rfl rfl (pv_move rfl) rfl ?_
        refine at_does_g rfl rfl rfl (does_val cal27 rfl rfl rfl (fun w hs => same_ref u11.1 u12.1 u11.2 u12.2 (compO ns ls cs (wk)) w (hs.rows len4 (by decide) (.s (.s (.s (.s (.s (.s (.s (.s .z))))))))) (hs.rows len4 (by decide) (.s (.s (.s (.s (.s (.s (.s (.s (.s .z)))))))))))) rfl (fun _ => ?_)
        refine at_pure_g rfl rfl rfl (pv_not rfl) rfl ?_
        refine at_pure (pv_pick_f rfl rfl rfl) rfl ?_
        refine at_pure (pv_move rfl) rfl ?_
        refine at_pure_g rfl rfl rfl (pv_move rfl) rfl ?_
        refine at_pure_g rfl rfl rfl (pv_move rfl) rfl ?_
        refine at_does_g rfl rfl rfl (does_val cal27 rfl rfl rfl (fun w hs => same_ref u13.1 u14.1 u13.2 u14.2 (compO z.ns z.ls cs (wk)) w (hs.rows len4 (by decide) (.s (.s (.s (.s (.s (.s (.s (.s (.s (.s .z))))))))))) (hs.rows len4 (by decide) (.s (.s (.s (.s (.s (.s (.s (.s (.s (.s (.s .z)))))))))))))) rfl (fun _ => ?_)
        refine at_pure_g rfl rfl rfl (pv_not rfl) rfl ?_
        refine at_pure (pv_pick_f rfl rfl rfl) rfl ?_
        refine at_nil ?_
        refine ex_go ?_
        refine cd_else rfl rfl ?_
        refine cd_skip ?_
        refine ex_in_normal (ex_go ?_)
        refine cd_region ?_
        refine at_pure (by first | exact pv_add_n rfl rfl (by unfold In64; omega) | exact pv_add rfl rfl) rfl ?_
        refine at_pure (pv_move rfl) rfl ?_
        refine at_nil ?_
        refine ex_round ?_
        refine cd_seq ?_
        refine cd_region ?_
        refine at_pure (pv_lss rfl rfl) rfl ?_
        refine at_nil ?_
        refine ex_go ?_
        refine cd_seq ?_
        refine cd_then rfl (by decide) ?_
        refine cd_skip ?_
        refine ex_go ?_
        refine cd_seq ?_
        refine cd_block ?_
        refine cd_seq ?_
        refine cd_region ?_
        refine at_pure (pv_indexLit Try.underlying22 cz_3 rfl rfl (by decide) rfl) rfl ?_
        refine at_pure (by exact pv_load ld_3 rfl (box_cell (.s (.s (.s (.s (.s .z))))) (.s .z))) rfl ?_
        refine at_pure (pv_assign rfl) rfl ?_
        refine at_nil ?_
        refine ex_go ?_
        refine cd_seq ?_
        refine cd_region ?_
        refine at_pure (by exact pv_loads_box ag_28 rfl (.s (.s (.s (.s .z)))) (.take (.take .done))) rfl ?_
        refine at_pure (pv_move rfl) rfl ?_
        refine at_pure (pv_move rfl) rfl ?_
        refine at_does (does_gives (X := Option Addr × Nat) (val := fun u => .tuple #[.slice u.1 (compO z.ns z.ls z.cs (1 + wk % 4)).length u.2, .int .i64 (compE z.ns z.ls z.cs (1 + wk % 4))]) (Δ := fun u => [RowP enc4 4 39 u.1 u.2 (compO z.ns z.ls z.cs (1 + wk % 4))]) cal17 rfl rfl rfl (fun w hs => by have h9 := compile_full z.an z.al z.cn z.cl z.ns z.ls z.ac z.cc z.cs (1 + wk % 4) w (hs.rows len4 (by decide) (.s .z)) (hs.rows len4 (by decide) (.s (.s .z))) (hs.rows len1 (by decide) (.s (.s (.s .z)))); exact h9) (fun _ => (.cons (.cons (.cons (.cons (.cons (.cons (.cons (.cons (.cons (.cons (.cons (.cons .nil)))))))))))))) rfl (fun u9 => ?_)
        refine at_pure (pv_move rfl) rfl ?_
        refine at_pure (pv_extract rfl rfl) rfl ?_
        refine at_pure (pv_extract rfl rfl) rfl ?_
        refine at_pure (pv_assign rfl) rfl ?_
        refine at_pure (pv_assign rfl) rfl ?_
        refine at_nil ?_
        refine ex_go ?_
        refine cd_seq ?_
        refine cd_region ?_
        refine at_pure (by exact pv_loads_box ag_28 rfl (.s (.s (.s (.s .z)))) (.take (.take .done))) rfl ?_
        refine at_pure (pv_move rfl) rfl ?_
        refine at_pure (pv_move rfl) rfl ?_
        refine at_does (does_gives (X := Option Addr × Nat) (val := fun u => .tuple #[.slice u.1 (compO z.ns z.ls z.cs (1 + wk % 4)).length u.2, .int .i64 (compE z.ns z.ls z.cs (1 + wk % 4))]) (Δ := fun u => [RowP enc4 4 39 u.1 u.2 (compO z.ns z.ls z.cs (1 + wk % 4))]) cal14 rfl rfl rfl (fun w hs => by have h9 := compileR_full z.an z.al z.cn z.cl z.ns z.ls z.ac z.cc z.cs (1 + wk % 4) w (hs.rows len4 (by decide) (.s .z)) (hs.rows len4 (by decide) (.s (.s .z))) (hs.rows len1 (by decide) (.s (.s (.s .z)))); exact h9) (fun _ => (.cons (.cons (.cons (.cons (.cons (.cons (.cons (.cons (.cons (.cons (.cons (.cons (.cons .nil))))))))))))))) rfl (fun u10 => ?_)
        refine at_pure (pv_move rfl) rfl ?_
        refine at_pure (pv_extract rfl rfl) rfl ?_
        refine at_pure (pv_extract rfl rfl) rfl ?_
        refine at_pure (pv_assign rfl) rfl ?_
        refine at_pure (pv_assign rfl) rfl ?_
        refine at_nil ?_
        refine ex_go ?_
        refine cd_seq ?_
        refine cd_region ?_
        refine at_pure (by exact pv_loads_box ag_28 rfl .z (.take (.take .done))) rfl ?_
        refine at_pure (pv_move rfl) rfl ?_
        refine at_pure (pv_move rfl) rfl ?_
        refine at_does (does_gives (X := Option Addr × Nat) (val := fun u => .tuple #[.slice u.1 (compO ns ls cs (1 + wk % 4)).length u.2, .int .i64 (compE ns ls cs (1 + wk % 4))]) (Δ := fun u => [RowP enc4 4 39 u.1 u.2 (compO ns ls cs (1 + wk % 4))]) cal17 rfl rfl rfl (fun w hs => by have h9 := compile_full a b ca cb ns ls c cc cs (1 + wk % 4) w (hn.at' hs) (hl.at' hs) (hc.at' hs); exact h9) (fun _ => (.cons (.cons (.cons (.cons (.cons (.cons (.cons (.cons (.cons (.cons (.cons (.cons (.cons (.cons .nil)))))))))))))))) rfl (fun u11 => ?_)
        refine at_pure (pv_move rfl) rfl ?_
        refine at_pure (pv_extract rfl rfl) rfl ?_
        refine at_pure (pv_extract rfl rfl) rfl ?_
        refine at_pure (pv_assign rfl) rfl ?_
        refine at_pure (pv_assign rfl) rfl ?_
        refine at_nil ?_
        refine ex_go ?_
        refine cd_seq ?_
        refine cd_region ?_
        refine at_pure (by exact pv_loads_box ag_28 rfl .z (.take (.take .done))) rfl ?_
        refine at_pure (pv_move rfl) rfl ?_
        refine at_pure (pv_move rfl) rfl ?_
        refine at_does (does_gives (X := Option Addr × Nat) (val := fun u => .tuple #[.slice u.1 (compO ns ls cs (1 + wk % 4)).length u.2, .int .i64 (compE ns ls cs (1 + wk % 4))]) (Δ := fun u => [RowP enc4 4 39 u.1 u.2 (compO ns ls cs (1 + wk % 4))]) cal14 rfl rfl rfl (fun w hs => by have h9 := compileR_full a b ca cb ns ls c cc cs (1 + wk % 4) w (hn.at' hs) (hl.at' hs) (hc.at' hs); exact h9) (fun _ => (.cons (.cons (.cons (.cons (.cons (.cons (.cons (.cons (.cons (.cons (.cons (.cons (.cons (.cons (.cons .nil))))))))))))))))) rfl (fun u12 => ?_)
        refine at_pure (pv_move rfl) rfl ?_
        refine at_pure (pv_extract rfl rfl) rfl ?_
        refine at_pure (pv_extract rfl rfl) rfl ?_
        refine at_pure (pv_assign rfl) rfl ?_
        refine at_pure (pv_assign rfl) rfl ?_
        refine at_nil ?_
        refine ex_go ?_
        refine cd_seq ?_
        refine cd_region ?_
        refine at_pure (by exact pv_loads_box ag_28 rfl (.s (.s (.s (.s .z)))) (.take (.take .done))) rfl ?_
        refine at_pure (pv_move rfl) rfl ?_
        refine at_pure (pv_move rfl) rfl ?_
        refine at_does (does_gives (X := Option Addr × Nat) (val := fun u => .tuple #[.slice u.1 (compO z.ns z.ls cs (1 + wk % 4)).length u.2, .int .i64 (compE z.ns z.ls cs (1 + wk % 4))]) (Δ := fun u => [RowP enc4 4 39 u.1 u.2 (compO z.ns z.ls cs (1 + wk % 4))]) cal17 rfl rfl rfl (fun w hs => by have h9 := compile_full z.an z.al z.cn z.cl z.ns z.ls c cc cs (1 + wk % 4) w (hs.rows len4 (by decide) (.s .z)) (hs.rows len4 (by decide) (.s (.s .z))) (hc.at' hs); exact h9) (fun _ => (.cons (.cons (.cons (.cons (.cons (.cons (.cons (.cons (.cons (.cons (.cons (.cons (.cons (.cons (.cons (.cons .nil)))))))))))))))))) rfl (fun u13 => ?_)
        refine at_pure (pv_move rfl) rfl ?_
        refine at_pure (pv_extract rfl rfl) rfl ?_
        refine at_pure (pv_extract rfl rfl) rfl ?_
        refine at_pure (pv_assign rfl) rfl ?_
        refine at_pure (pv_assign rfl) rfl ?_
        refine at_nil ?_
        refine ex_go ?_
        refine cd_seq ?_
        refine cd_region ?_
        refine at_pure (by exact pv_loads_box ag_28 rfl (.s (.s (.s (.s .z)))) (.take (.take .done))) rfl ?_
        refine at_pure (pv_move rfl) rfl ?_
        refine at_pure (pv_move rfl) rfl ?_
        refine at_does (does_gives (X := Option Addr × Nat) (val := fun u => .tuple #[.slice u.1 (compO z.ns z.ls cs (1 + wk % 4)).length u.2, .int .i64 (compE z.ns z.ls cs (1 + wk % 4))]) (Δ := fun u => [RowP enc4 4 39 u.1 u.2 (compO z.ns z.ls cs (1 + wk % 4))]) cal14 rfl rfl rfl (fun w hs => by have h9 := compileR_full z.an z.al z.cn z.cl z.ns z.ls c cc cs (1 + wk % 4) w (hs.rows len4 (by decide) (.s .z)) (hs.rows len4 (by decide) (.s (.s .z))) (hc.at' hs); exact h9) (fun _ => (.cons (.cons (.cons (.cons (.cons (.cons (.cons (.cons (.cons (.cons (.cons (.cons (.cons (.cons (.cons (.cons (.cons .nil))))))))))))))))))) rfl (fun u14 => ?_)
        refine at_pure (pv_move rfl) rfl ?_
        refine at_pure (pv_extract rfl rfl) rfl ?_
        refine at_pure (pv_extract rfl rfl) rfl ?_
        refine at_pure (pv_assign rfl) rfl ?_
        refine at_pure (pv_assign rfl) rfl ?_
        refine at_nil ?_
        refine ex_go ?_
        refine cd_seq ?_
        refine cd_region ?_
        refine at_pure (pv_move rfl) rfl ?_
        refine at_pure (pv_move rfl) rfl ?_
        refine at_pure (pv_neq_same rfl rfl) rfl ?_
        refine at_pure (pv_move rfl) rfl ?_
        refine at_pure_g rfl rfl rfl (pv_move rfl) rfl ?_
        refine at_pure_g rfl rfl rfl (pv_move rfl) rfl ?_
        refine at_pure_g rfl rfl rfl (pv_neq_same rfl rfl) rfl ?_
        refine at_pure (pv_pick_f rfl rfl rfl) rfl ?_
        refine at_pure (pv_move rfl) rfl ?_
        refine at_pure_g rfl rfl rfl (pv_move rfl) rfl ?_
        refine at_pure_g rfl rfl rfl (pv_move rfl) rfl ?_
        refine at_pure_g rfl rfl rfl (pv_neq_same rfl rfl) rfl ?_
        refine at_pure (pv_pick_f rfl rfl rfl) rfl ?_
        refine at_pure (pv_move rfl) rfl ?_
        refine at_pure_g rfl rfl rfl (pv_move rfl) rfl ?_
        refine at_pure_g rfl rfl rfl (pv_move rfl) rfl ?_
        refine at_does_g rfl rfl rfl (does_val cal27 rfl rfl rfl (fun w hs => same_ref u9.1 u10.1 u9.2 u10.2 (compO z.ns z.ls z.cs (1 + wk % 4)) w (hs.rows len4 (by decide) (.s (.s (.s (.s (.s (.s (.s (.s (.s (.s (.s (.s .z))))))))))))) (hs.rows len4 (by decide) (.s (.s (.s (.s (.s (.s (.s (.s (.s (.s (.s (.s (.s .z)))))))))))))))) rfl (fun _ => ?_)
        refine at_pure_g rfl rfl rfl (pv_not rfl) rfl ?_
        refine at_pure (pv_pick_f rfl rfl rfl) rfl ?_
        refine at_pure (pv_move rfl) rfl ?_
        refine at_pure_g rfl rfl rfl (pv_move rfl) rfl ?_
        refine at_pure_g rfl rfl rfl (pv_move rfl) rfl ?_
        refine at_does_g rfl rfl rfl (does_val cal27 rfl rfl rfl (fun w hs => same_ref u11.1 u12.1 u11.2 u12.2 (compO ns ls cs (1 + wk % 4)) w (hs.rows len4 (by decide) (.s (.s (.s (.s (.s (.s (.s (.s (.s (.s (.s (.s (.s (.s .z))))))))))))))) (hs.rows len4 (by decide) (.s (.s (.s (.s (.s (.s (.s (.s (.s (.s (.s (.s (.s (.s (.s .z)))))))))))))))))) rfl (fun _ => ?_)
        refine at_pure_g rfl rfl rfl (pv_not rfl) rfl ?_
        refine at_pure (pv_pick_f rfl rfl rfl) rfl ?_
        refine at_pure (pv_move rfl) rfl ?_
        refine at_pure_g rfl rfl rfl (pv_move rfl) rfl ?_
        refine at_pure_g rfl rfl rfl (pv_move rfl) rfl ?_
        refine at_does_g rfl rfl rfl (does_val cal27 rfl rfl rfl (fun w hs => same_ref u13.1 u14.1 u13.2 u14.2 (compO z.ns z.ls cs (1 + wk % 4)) w (hs.rows len4 (by decide) (.s (.s (.s (.s (.s (.s (.s (.s (.s (.s (.s (.s (.s (.s (.s (.s .z))))))))))))))))) (hs.rows len4 (by decide) (.s (.s (.s (.s (.s (.s (.s (.s (.s (.s (.s (.s (.s (.s (.s (.s (.s .z)))))))))))))))))))) rfl (fun _ => ?_)
        refine at_pure_g rfl rfl rfl (pv_not rfl) rfl ?_
        refine at_pure (pv_pick_f rfl rfl rfl) rfl ?_
        refine at_nil ?_
        refine ex_go ?_
        refine cd_else rfl rfl ?_
        refine cd_skip ?_
        refine ex_in_normal (ex_go ?_)
        refine cd_region ?_
        refine at_pure (by first | exact pv_add_n rfl rfl (by unfold In64; omega) | exact pv_add rfl rfl) rfl ?_
        refine at_pure (pv_move rfl) rfl ?_
        refine at_nil ?_
        refine ex_round ?_
        refine cd_seq ?_
        refine cd_region ?_
        refine at_pure (pv_lss rfl rfl) rfl ?_
        refine at_nil ?_
        refine ex_go ?_
        refine cd_seq ?_
        refine cd_else rfl (by decide) ?_
        refine cd_exit ?_
        refine ex_then_exit (ex_then_exit (ex_in (ex_go ?_)))
        refine cd_seq ?_
        refine cd_region ?_
        refine at_pure (pv_assign rfl) rfl ?_
        refine at_nil ?_
        refine ex_go ?_
        refine cd_ret ?_
        exact end_ret1 rfl rfl (fun w hs => ⟨rfl, hs.keep⟩)

end Go.Proofs.Ytkejdfnpbkdllaa
