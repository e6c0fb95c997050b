/- The example of the chapter. -/
import Derived.Test.YtkejdfnpbkdllaaF25
import Derived.Test.YtkejdfnpbkdllaaSch6
set_option linter.unusedVariables false
set_option linter.unusedSimpArgs false
set_option maxRecDepth 20000
namespace Go.Proofs.Ytkejdfnpbkdllaa
open Go Go.RowKit Go.Proofs.YtkejdfnpbkdllaaV
def exN : List Q4 := [(1, 1, 0, 1), (2, 1, 0, 1), (3, 3, 1, 1)]
def exL : List Q4 := [(1, 0, 3, 0), (2, 0, 3, 0)]
def exC : List Int := [5, 7, 1]
def exS : List Q4 := [(1, 0, 0, 5), (2, 1, 0, 7), (3, 0, 7, 8)]
theorem ex_comp : compO exN exL exC 2 = exS ∧ compE exN exL exC 2 = 0 ∧ spanS exS = 8 ∧ critS exN exL exC = 8 ∧ boundS exN exL exC 2 = 10 := by decide +kernel
theorem sane_compile (a b c : Option Addr) (ca cb cc : Nat) (w : World) (hn : Sl [] enc4 4 w a ca exN) (hl : Sl [] enc4 4 w b cb exL) (hc : Sl [] enc1 1 w c cc exC) : Calls Try.prog 17 [.agg #[.slice a 3 ca, .slice b 2 cb], .slice c 3 cc, .int .i64 2].toArray w (Gives (fun z : Option Addr × Nat => .tuple #[.slice z.1 3 z.2, .int .i64 0]) (fun z => [RowP enc4 4 39 z.1 z.2 exS]) w) := by
  have h := compile_full a b ca cb exN exL c cc exC 2 w hn hl hc
  rw [ex_comp.1, ex_comp.2.1] at h
  exact h
theorem sane_span (c : Option Addr) (cc : Nat) (w : World) (h : Sl [] enc4 4 w c cc exS) : Calls Try.prog 18 [.slice c 3 cc].toArray w (Val (.int .i64 8) w) := by
  have h := span_go c cc exS w h
  rw [ex_comp.2.2.1] at h
  exact h
theorem sane_crit (a b c : Option Addr) (ca cb cc : Nat) (w : World) (hn : Sl [] enc4 4 w a ca exN) (hl : Sl [] enc4 4 w b cb exL) (hc : Sl [] enc1 1 w c cc exC) : Calls Try.prog 19 [.agg #[.slice a 3 ca, .slice b 2 cb], .slice c 3 cc].toArray w (Val (.int .i64 8) w) := by
  have h := crit_full a b ca cb exN exL c cc exC w hn hl hc
  rw [ex_comp.2.2.2.1] at h
  exact h
theorem sane_bound (a b c : Option Addr) (ca cb cc : Nat) (w : World) (hn : Sl [] enc4 4 w a ca exN) (hl : Sl [] enc4 4 w b cb exL) (hc : Sl [] enc1 1 w c cc exC) : Calls Try.prog 20 [.agg #[.slice a 3 ca, .slice b 2 cb], .slice c 3 cc, .int .i64 2].toArray w (Val (.int .i64 10) w) := by
  have h := bound_full a b ca cb exN exL c cc exC 2 w hn hl hc
  rw [ex_comp.2.2.2.2] at h
  exact h

theorem sane_25  (w : World) : Calls Try.prog 10 [].toArray w (Val (.bool true) w) := by
  refine calls_body (n := 42) Try.func10 rfl rfl rfl (St.init _ []) ?_
  refine cd_seq ?_
  refine cd_region ?_
  refine at_pure (pv_assign rfl) rfl ?_
  refine at_nil ?_
  refine ex_go ?_
  refine cd_seq ?_
  refine cd_region ?_
  refine at_pure (pv_build rfl (bu_70_0_1_3 _ _ _)) rfl ?_
  refine at_pure (pv_build rfl (bu_70_0_1_3 _ _ _)) rfl ?_
  refine at_pure (pv_build rfl (bu_70_0_1_2_3 _ _ _ _)) rfl ?_
  refine at_does (does_list (by rfl) (by exact (bs_25_3_0_1_2 _ _ _ _ _ _ _ _ _ _ _ _)) (by exact (fun _ => .nil))) rfl (fun g1 => ?_)
  refine at_pure (pv_build rfl (bu_61_0_2 _ _)) rfl ?_
  refine at_pure (pv_build rfl (bu_61_0_2 _ _)) rfl ?_
  refine at_does (does_list (by rfl) (by exact (bs_26_2_0_1 _ _ _ _ _ _ _ _)) (by exact (fun _ => (.cons .nil)))) rfl (fun g2 => ?_)
  refine at_pure (pv_build rfl (bu_28_0_1 _ _ _ _ _ _)) rfl ?_
  refine at_does (does_alloc ze_28 .agg (fun _ => (.cons (.cons .nil)))) rfl (fun g3 => ?_)
  refine at_turns (by exact turns_store sz_28 rfl rfl .agg rfl rfl (.s (.s .z)) (.rep (.rep .done)) (.s (.s .z))) ?_
  refine at_nil ?_
  refine ex_go ?_
  refine cd_seq ?_
  refine cd_region ?_
  refine at_pure (by exact pv_loads_box ag_28 rfl (.s (.s .z)) (.take (.take .done))) rfl ?_
  refine at_does (does_list (by rfl) (by exact (bs_22_3_0_1_2 _ _ _)) (by exact (fun _ => (.cons (.cons (.cons .nil)))))) rfl (fun g4 => ?_)
  refine at_does (does_gives (X := Option Addr × Nat) (val := fun z => .tuple #[.slice z.1 3 z.2, .int .i64 0]) (Δ := fun z => [RowP enc4 4 39 z.1 z.2 exS]) cal17 rfl rfl rfl (fun w hs => by have h9 := sane_compile _ _ _ _ _ _ w (hs.boxes (xs := exN) len4 .z rfl (by decide)) (hs.boxes (xs := exL) len4 (.s .z) rfl (by decide)) (hs.boxes (xs := exC) len1 (.s (.s (.s .z))) rfl (by decide)); exact h9) (fun _ => (.cons (.cons (.cons (.cons .nil)))))) rfl (fun z9 => ?_)
  refine at_pure (pv_move rfl) rfl ?_
  refine at_pure (pv_extract rfl rfl) rfl ?_
  refine at_pure (pv_extract rfl rfl) rfl ?_
  refine at_pure (pv_assign rfl) rfl ?_
  refine at_pure (pv_assign rfl) rfl ?_
  refine at_nil ?_
  refine ex_go ?_
  refine cd_seq ?_
  refine cd_region ?_
  refine at_pure (pv_move rfl) rfl ?_
  refine at_pure (pv_eql rfl rfl) rfl ?_
  refine at_pure (pv_move rfl) rfl ?_
  refine at_pure_g rfl rfl (by decide) (pv_move rfl) rfl ?_
  refine at_pure_g rfl rfl (by decide) (pv_len Try.underlying23 rfl) rfl ?_
  refine at_pure_g rfl rfl (by decide) (pv_eql rfl rfl) rfl ?_
  refine at_pure (pv_pick_t rfl (by decide) rfl) rfl ?_
  refine at_pure (pv_move rfl) rfl ?_
  refine at_pure_g rfl rfl (by decide) (pv_move rfl) rfl ?_
  refine at_does_g rfl rfl (by decide) (does_val cal18 rfl rfl rfl (fun w hs => sane_span z9.1 z9.2 w (hs.rows len4 (by decide) (.s (.s (.s (.s .z))))))) rfl (fun _ => ?_)
  refine at_pure_g rfl rfl (by decide) (pv_eql rfl rfl) rfl ?_
  refine at_pure (pv_pick_t rfl (by decide) rfl) rfl ?_
  refine at_pure (pv_move rfl) rfl ?_
  refine at_pure_g rfl rfl (by decide) (by exact pv_loads_box ag_28 rfl (.s (.s .z)) (.take (.take .done))) rfl ?_
  refine at_does_g rfl rfl (by decide) (does_list (by rfl) (by exact (bs_22_3_0_1_2 _ _ _)) (by exact (fun _ => (.cons (.cons (.cons (.cons (.cons .nil)))))))) rfl (fun g5 => ?_)
  refine at_does_g rfl rfl (by decide) (does_val cal19 rfl rfl rfl (fun w hs => sane_crit _ _ _ _ _ _ w (hs.boxes (xs := exN) len4 .z rfl (by decide)) (hs.boxes (xs := exL) len4 (.s .z) rfl (by decide)) (hs.boxes (xs := exC) len1 (.s (.s (.s (.s (.s .z))))) rfl (by decide)))) rfl (fun _ => ?_)
  refine at_pure_g rfl rfl (by decide) (pv_eql rfl rfl) rfl ?_
  refine at_pure (pv_pick_t rfl (by decide) rfl) rfl ?_
  refine at_pure (pv_move rfl) rfl ?_
  refine at_pure_g rfl rfl (by decide) (by exact pv_loads_box ag_28 rfl (.s (.s .z)) (.take (.take .done))) rfl ?_
  refine at_does_g rfl rfl (by decide) (does_list (by rfl) (by exact (bs_22_3_0_1_2 _ _ _)) (by exact (fun _ => (.cons (.cons (.cons (.cons (.cons (.cons .nil))))))))) rfl (fun g6 => ?_)
  refine at_does_g rfl rfl (by decide) (does_val cal20 rfl rfl rfl (fun w hs => sane_bound _ _ _ _ _ _ w (hs.boxes (xs := exN) len4 .z rfl (by decide)) (hs.boxes (xs := exL) len4 (.s .z) rfl (by decide)) (hs.boxes (xs := exC) len1 (.s (.s (.s (.s (.s (.s .z)))))) rfl (by decide)))) rfl (fun _ => ?_)
  refine at_pure_g rfl rfl (by decide) (pv_eql rfl rfl) rfl ?_
  refine at_pure (pv_pick_t rfl (by decide) rfl) rfl ?_
  refine at_pure (pv_assign rfl) rfl ?_
  refine at_nil ?_
  refine ex_go ?_
  refine cd_ret ?_
  exact end_ret1 rfl rfl (fun w hs => ⟨rfl, hs.keep⟩)

end Go.Proofs.Ytkejdfnpbkdllaa
