/- The law LatencyLongest. -/
import Derived.Test.YtkejdfnpbkdllaaLaw26F
import Derived.Test.YtkejdfnpbkdllaaLat3
set_option linter.unusedVariables false
set_option linter.unusedSimpArgs false
set_option maxRecDepth 20000
namespace Go.Proofs.Ytkejdfnpbkdllaa
open Go Go.RowKit Go.Proofs.YtkejdfnpbkdllaaV
set_option maxRecDepth 10000 in
set_option maxHeartbeats 4000000 in
theorem latencyLongest_any (a0 : Option Addr) (len0 cap0 : Nat) (a1 : Option Addr) (cap1 : Nat) (ws : List Int) (x2 x3 x4 x5 : Int) (w : World) (hI : Ints [] w a0 len0) (hlen : len0 ≤ 17592186044416) (hw : Sl [] enc1 1 w a1 cap1 ws) : Calls Try.prog 5 [.slice a0 len0 cap0, .slice a1 ws.length cap1, .int .i64 x2, .int .i64 x3, .int .i64 x4, .int .i64 x5].toArray w (Val (.bool true) w) := by
  refine calls_body (n := 86) Try.func5 rfl rfl rfl (St.init _ []) ?_
  refine cd_seq ?_
  refine cd_region ?_
  refine at_pure (pv_assign rfl) rfl ?_
  refine at_nil ?_
  refine ex_go ?_
  refine cd_seq ?_
  refine cd_seq ?_
  refine cd_region ?_
  refine at_does (does_val cal21 rfl rfl rfl (fun w hs => sane_lat w)) rfl (fun _ => ?_)
  refine at_pure (pv_not rfl) rfl ?_
  refine at_nil ?_
  refine ex_go ?_
  refine cd_else rfl rfl ?_
  refine cd_skip ?_
  refine ex_go ?_
  refine cd_seq ?_
  refine cd_seq ?_
  refine cd_region ?_
  refine at_pure (pv_move rfl) rfl ?_
  refine at_pure (pv_len Try.underlying22 rfl) rfl ?_
  refine at_pure (pv_gtr rfl rfl) rfl ?_
  refine at_nil ?_
  refine ex_go ?_
  refine cd_if rfl (fun h20 => ?_) (fun h20 => ?_)
  · skip
    refine cd_seq ?_
    refine cd_region ?_
    refine at_pure (pv_assign rfl) rfl ?_
    refine at_nil ?_
    refine ex_go ?_
    refine cd_ret ?_
    refine ex_then_ret ?_
    exact end_ret1 rfl rfl (fun w hs => Val.mk hs)
  · skip
    refine cd_skip ?_
    refine ex_go ?_
    refine cd_seq ?_
    refine cd_region ?_
    refine at_pure (pv_move rfl) rfl ?_
    refine at_does (does_gives (X := Nat) (val := fun g => Value.pointer (some ⟨g, 0, none⟩)) (Δ := fun g => [Box g [.slice a0 len0 cap0, .int .i64 0] 76]) cal12 rfl rfl rfl (fun w hs => by have h9 := deck_new a0 len0 cap0 w; exact h9) (fun _ => .nil)) rfl (fun gd => ?_)
    refine at_mades (does_mades (X := MZ) (val := fun z => .tuple #[.agg #[.slice z.an z.ns.length z.cn, .slice z.al z.ls.length z.cl], .slice z.ac z.cs.length z.cc]) (Δ := fun z => [RowP enc4 4 70 z.an z.cn z.ns, RowP enc4 4 61 z.al z.cl z.ls, RowP enc1 1 3 z.ac z.cc z.cs]) (good := MillOk) cal11 rfl rfl rfl .z (fun w hs => by have h9 := graph_any gd a0 len0 cap0 0 w (hs.box (i := 0) rfl) (hI.beside hs .z) (by omega) hlen; exact h9) (fun _ => rfl)) rfl (fun z hz => ?_)
    refine at_pure (pv_move rfl) rfl ?_
    refine at_pure (pv_extract rfl rfl) rfl ?_
    refine at_pure (pv_extract rfl rfl) rfl ?_
    refine at_does (does_alloc ze_28 .agg (fun _ => (.cons (.cons (.cons .nil))))) rfl (fun g13 => ?_)
    refine at_turns (by exact turns_store sz_28 rfl rfl .agg rfl rfl (.s (.s (.s .z))) (.rep (.rep .done)) (.s (.s (.s .z)))) ?_
    refine at_pure (pv_assign rfl) rfl ?_
    refine at_nil ?_
    refine ex_go ?_
    refine cd_seq ?_
    refine cd_seq ?_
    refine cd_region ?_
    refine at_pure (pv_move rfl) rfl ?_
    refine at_pure (pv_move rfl) rfl ?_
    refine at_does (does_list (by rfl) (by exact (bs_47_2_0_1 _ _ _ _ _ _)) (by exact (fun _ => (.cons (.cons (.cons (.cons .nil))))))) rfl (fun g2 => ?_)
    refine at_pure (pv_len Try.underlying47 rfl) rfl ?_
    refine at_pure (pv_move rfl) rfl ?_
    refine at_nil ?_
    refine ex_go ?_
    refine cd_block ?_
    refine cd_rounds 2 ?_
    refine cd_seq ?_
    refine cd_region ?_
    refine at_pure (pv_lss rfl rfl) rfl ?_
    refine at_nil ?_
    refine ex_go ?_
    refine cd_seq ?_
    refine cd_then rfl (by decide) ?_
    refine cd_skip ?_
    refine ex_go ?_
    refine cd_seq ?_
    refine cd_block ?_
    refine cd_seq ?_
    refine cd_region ?_
    refine at_pure (pv_indexLit Try.underlying47 cz_22 rfl rfl (by decide) rfl) rfl ?_
    refine at_pure (by exact pv_load ld_22 rfl (box_cell (.s (.s (.s (.s .z)))) .z)) rfl ?_
    refine at_pure (pv_assign rfl) rfl ?_
    refine at_nil ?_
    refine ex_go ?_
    refine cd_seq ?_
    refine cd_region ?_
    refine at_pure (pv_move rfl) rfl ?_
    refine at_pure (pv_move rfl) rfl ?_
    refine at_pure (pv_build rfl (bu_48_0_1 _ _)) rfl ?_
    refine at_pure (pv_move rfl) rfl ?_
    refine at_does (does_val cal13 rfl rfl rfl (fun w hs => mod_any _ _ w (by decide))) rfl (fun _ => ?_)
    refine at_pure (pv_move rfl) rfl ?_
    refine at_does (does_val cal13 rfl rfl rfl (fun w hs => mod_any _ _ w (by decide))) rfl (fun _ => ?_)
    refine at_pure (pv_build rfl (bu_48_0_1 _ _)) rfl ?_
    refine at_does (does_list (by rfl) (by exact (bs_49_2_0_1 _ _ _ _)) (by exact (fun _ => (.cons (.cons (.cons (.cons (.cons .nil)))))))) rfl (fun g3 => ?_)
    refine at_pure (pv_len Try.underlying49 rfl) rfl ?_
    refine at_pure (pv_move rfl) rfl ?_
    refine at_nil ?_
    refine ex_go ?_
    refine cd_block ?_
    refine cd_rounds 2 ?_
    refine cd_seq ?_
    refine cd_region ?_
    refine at_pure (pv_lss rfl rfl) rfl ?_
    refine at_nil ?_
    refine ex_go ?_
    refine cd_seq ?_
    refine cd_then rfl (by decide) ?_
    refine cd_skip ?_
    refine ex_go ?_
    refine cd_seq ?_
    refine cd_block ?_
    refine cd_seq ?_
    refine cd_region ?_
    refine at_pure (pv_indexLit Try.underlying49 cz_48 rfl rfl (by decide) rfl) rfl ?_
    refine at_pure (by exact pv_loads_box ag_48 rfl (.s (.s (.s (.s (.s .z))))) (.take (.take .done))) rfl ?_
    refine at_does (does_alloc ze_48 .agg (fun _ => (.cons (.cons (.cons (.cons (.cons (.cons .nil)))))))) rfl (fun g4 => ?_)
    refine at_turns (by exact turns_store sz_48 rfl rfl .agg rfl rfl (.s (.s (.s (.s (.s (.s .z)))))) (.rep (.rep .done)) (.s (.s (.s (.s (.s (.s .z))))))) ?_
    refine at_nil ?_
    refine ex_go ?_
    refine cd_seq ?_
    refine cd_region ?_
    refine at_pure (by exact pv_loads_box ag_28 rfl (.s (.s (.s .z))) (.take (.take .done))) rfl ?_
    refine at_pure (pv_move rfl) rfl ?_
    refine at_pure (pv_indexArr Try.underlying48 cz_3 rfl rfl (by decide) rfl) rfl ?_
    refine at_pure (by exact pv_load ld_3 rfl (box_cell (.s (.s (.s (.s (.s (.s .z)))))) .z)) rfl ?_
    refine at_pure (pv_indexArr Try.underlying48 cz_3 rfl rfl (by decide) rfl) rfl ?_
    refine at_pure (by exact pv_load ld_3 rfl (box_cell (.s (.s (.s (.s (.s (.s .z)))))) (.s .z))) rfl ?_
    refine at_does (does_val cal22 rfl rfl rfl (fun w hs => longest_go z.an z.al z.cn z.cl z.ns z.ls z.ac z.cc z.cs (x2) (x3) w (hs.rows len4 (by decide) .z) (hs.rows len4 (by decide) (.s .z)) (hs.rows len1 (by decide) (.s (.s .z))))) rfl (fun _ => ?_)
    refine at_pure (pv_move rfl) rfl ?_
    refine at_pure (pv_extract rfl rfl) rfl ?_
    refine at_pure (pv_extract rfl rfl) rfl ?_
    refine at_pure (pv_assign rfl) rfl ?_
    refine at_pure (pv_assign rfl) rfl ?_
    refine at_nil ?_
    refine ex_go ?_
    refine cd_seq ?_
    refine cd_region ?_
    refine at_pure (by exact pv_loads_box ag_28 rfl (.s (.s (.s .z))) (.take (.take .done))) rfl ?_
    refine at_pure (pv_move rfl) rfl ?_
    refine at_pure (pv_indexArr Try.underlying48 cz_3 rfl rfl (by decide) rfl) rfl ?_
    refine at_pure (by exact pv_load ld_3 rfl (box_cell (.s (.s (.s (.s (.s (.s .z)))))) .z)) rfl ?_
    refine at_pure (pv_indexArr Try.underlying48 cz_3 rfl rfl (by decide) rfl) rfl ?_
    refine at_pure (by exact pv_load ld_3 rfl (box_cell (.s (.s (.s (.s (.s (.s .z)))))) (.s .z))) rfl ?_
    refine at_does (does_val cal23 rfl rfl rfl (fun w hs => longest_ref z.an z.al z.cn z.cl z.ns z.ls z.ac z.cc z.cs (x2) (x3) w (hs.rows len4 (by decide) .z) (hs.rows len4 (by decide) (.s .z)) (hs.rows len1 (by decide) (.s (.s .z))))) rfl (fun _ => ?_)
    refine at_pure (pv_move rfl) rfl ?_
    refine at_pure (pv_extract rfl rfl) rfl ?_
    refine at_pure (pv_extract rfl rfl) rfl ?_
    refine at_pure (pv_assign rfl) rfl ?_
    refine at_pure (pv_assign rfl) rfl ?_
    refine at_nil ?_
    refine ex_go ?_
    refine cd_seq ?_
    refine cd_region ?_
    refine at_pure (pv_move rfl) rfl ?_
    refine at_pure (pv_move rfl) rfl ?_
    refine at_pure (pv_neq_same rfl rfl) rfl ?_
    refine at_pure (pv_move rfl) rfl ?_
    refine at_pure_g rfl rfl rfl (pv_move rfl) rfl ?_
    refine at_pure_g rfl rfl rfl (pv_move rfl) rfl ?_
    refine at_pure_g rfl rfl rfl (pv_neq_same rfl rfl) rfl ?_
    refine at_pure (pv_pick_f rfl rfl rfl) rfl ?_
    refine at_nil ?_
    refine ex_go ?_
    refine cd_else rfl rfl ?_
    refine cd_skip ?_
    refine ex_in_normal (ex_go ?_)
    refine cd_region ?_
    refine at_pure (by first | exact pv_add_n rfl rfl (by unfold In64; omega) | exact pv_add rfl rfl) rfl ?_
    refine at_pure (pv_move rfl) rfl ?_
    refine at_nil ?_
    refine ex_round ?_
    refine cd_seq ?_
    refine cd_region ?_
    refine at_pure (pv_lss rfl rfl) rfl ?_
    refine at_nil ?_
    refine ex_go ?_
    refine cd_seq ?_
    refine cd_then rfl (by decide) ?_
    refine cd_skip ?_
    refine ex_go ?_
    refine cd_seq ?_
    refine cd_block ?_
    refine cd_seq ?_
    refine cd_region ?_
    refine at_pure (pv_indexLit Try.underlying49 cz_48 rfl rfl (by decide) rfl) rfl ?_
    refine at_pure (by exact pv_loads_box ag_48 rfl (.s (.s (.s (.s (.s .z))))) (.skip (.skip (.take (.take .done))))) rfl ?_
    refine at_does (does_alloc ze_48 .agg (fun _ => (.cons (.cons (.cons (.cons (.cons (.cons (.cons .nil))))))))) rfl (fun g5 => ?_)
    refine at_turns (by exact turns_store sz_48 rfl rfl .agg rfl rfl (.s (.s (.s (.s (.s (.s (.s .z))))))) (.rep (.rep .done)) (.s (.s (.s (.s (.s (.s (.s .z)))))))) ?_
    refine at_nil ?_
    refine ex_go ?_
    refine cd_seq ?_
    refine cd_region ?_
    refine at_pure (by exact pv_loads_box ag_28 rfl (.s (.s (.s .z))) (.take (.take .done))) rfl ?_
    refine at_pure (pv_move rfl) rfl ?_
    refine at_pure (pv_indexArr Try.underlying48 cz_3 rfl rfl (by decide) rfl) rfl ?_
    refine at_pure (by exact pv_load ld_3 rfl (box_cell (.s (.s (.s (.s (.s (.s (.s .z))))))) .z)) rfl ?_
    refine at_pure (pv_indexArr Try.underlying48 cz_3 rfl rfl (by decide) rfl) rfl ?_
    refine at_pure (by exact pv_load ld_3 rfl (box_cell (.s (.s (.s (.s (.s (.s (.s .z))))))) (.s .z))) rfl ?_
    refine at_does (does_val cal22 rfl rfl rfl (fun w hs => longest_go z.an z.al z.cn z.cl z.ns z.ls z.ac z.cc z.cs (x4 % 26) (x5 % 26) w (hs.rows len4 (by decide) .z) (hs.rows len4 (by decide) (.s .z)) (hs.rows len1 (by decide) (.s (.s .z))))) rfl (fun _ => ?_)
    refine at_pure (pv_move rfl) rfl ?_
    refine at_pure (pv_extract rfl rfl) rfl ?_
    refine at_pure (pv_extract rfl rfl) rfl ?_
    refine at_pure (pv_assign rfl) rfl ?_
    refine at_pure (pv_assign rfl) rfl ?_
    refine at_nil ?_
    refine ex_go ?_
    refine cd_seq ?_
    refine cd_region ?_
    refine at_pure (by exact pv_loads_box ag_28 rfl (.s (.s (.s .z))) (.take (.take .done))) rfl ?_
    refine at_pure (pv_move rfl) rfl ?_
    refine at_pure (pv_indexArr Try.underlying48 cz_3 rfl rfl (by decide) rfl) rfl ?_
    refine at_pure (by exact pv_load ld_3 rfl (box_cell (.s (.s (.s (.s (.s (.s (.s .z))))))) .z)) rfl ?_
    refine at_pure (pv_indexArr Try.underlying48 cz_3 rfl rfl (by decide) rfl) rfl ?_
    refine at_pure (by exact pv_load ld_3 rfl (box_cell (.s (.s (.s (.s (.s (.s (.s .z))))))) (.s .z))) rfl ?_
    refine at_does (does_val cal23 rfl rfl rfl (fun w hs => longest_ref z.an z.al z.cn z.cl z.ns z.ls z.ac z.cc z.cs (x4 % 26) (x5 % 26) w (hs.rows len4 (by decide) .z) (hs.rows len4 (by decide) (.s .z)) (hs.rows len1 (by decide) (.s (.s .z))))) rfl (fun _ => ?_)
    refine at_pure (pv_move rfl) rfl ?_
    refine at_pure (pv_extract rfl rfl) rfl ?_
    refine at_pure (pv_extract rfl rfl) rfl ?_
    refine at_pure (pv_assign rfl) rfl ?_
    refine at_pure (pv_assign rfl) rfl ?_
    refine at_nil ?_
    refine ex_go ?_
    refine cd_seq ?_
    refine cd_region ?_
    refine at_pure (pv_move rfl) rfl ?_
    refine at_pure (pv_move rfl) rfl ?_
    refine at_pure (pv_neq_same rfl rfl) rfl ?_
    refine at_pure (pv_move rfl) rfl ?_
    refine at_pure_g rfl rfl rfl (pv_move rfl) rfl ?_
    refine at_pure_g rfl rfl rfl (pv_move rfl) rfl ?_
    refine at_pure_g rfl rfl rfl (pv_neq_same rfl rfl) rfl ?_
    refine at_pure (pv_pick_f rfl rfl rfl) rfl ?_
    refine at_nil ?_
    refine ex_go ?_
    refine cd_else rfl rfl ?_
    refine cd_skip ?_
    refine ex_in_normal (ex_go ?_)
    refine cd_region ?_
    refine at_pure (by first | exact pv_add_n rfl rfl (by unfold In64; omega) | exact pv_add rfl rfl) rfl ?_
    refine at_pure (pv_move rfl) rfl ?_
    refine at_nil ?_
    refine ex_round ?_
    refine cd_seq ?_
    refine cd_region ?_
    refine at_pure (pv_lss rfl rfl) rfl ?_
    refine at_nil ?_
    refine ex_go ?_
    refine cd_seq ?_
    refine cd_else rfl (by decide) ?_
    refine cd_exit ?_
    refine ex_then_exit (ex_then_exit (ex_in (ex_in_normal (ex_go ?_))))
    refine cd_region ?_
    refine at_pure (by first | exact pv_add_n rfl rfl (by unfold In64; omega) | exact pv_add rfl rfl) rfl ?_
    refine at_pure (pv_move rfl) rfl ?_
    refine at_nil ?_
    refine ex_round ?_
    refine cd_seq ?_
    refine cd_region ?_
    refine at_pure (pv_lss rfl rfl) rfl ?_
    refine at_nil ?_
    refine ex_go ?_
    refine cd_seq ?_
    refine cd_then rfl (by decide) ?_
    refine cd_skip ?_
    refine ex_go ?_
    refine cd_seq ?_
    refine cd_block ?_
    refine cd_seq ?_
    refine cd_region ?_
    refine at_pure (pv_indexLit Try.underlying47 cz_22 rfl rfl (by decide) rfl) rfl ?_
    refine at_pure (by exact pv_load ld_22 rfl (box_cell (.s (.s (.s (.s .z)))) (.s .z))) rfl ?_
    refine at_pure (pv_assign rfl) rfl ?_
    refine at_nil ?_
    refine ex_go ?_
    refine cd_seq ?_
    refine cd_region ?_
    refine at_pure (pv_move rfl) rfl ?_
    refine at_pure (pv_move rfl) rfl ?_
    refine at_pure (pv_build rfl (bu_48_0_1 _ _)) rfl ?_
    refine at_pure (pv_move rfl) rfl ?_
    refine at_does (does_val cal13 rfl rfl rfl (fun w hs => mod_any _ _ w (by decide))) rfl (fun _ => ?_)
    refine at_pure (pv_move rfl) rfl ?_
    refine at_does (does_val cal13 rfl rfl rfl (fun w hs => mod_any _ _ w (by decide))) rfl (fun _ => ?_)
    refine at_pure (pv_build rfl (bu_48_0_1 _ _)) rfl ?_
    refine at_does (does_list (by rfl) (by exact (bs_49_2_0_1 _ _ _ _)) (by exact (fun _ => (.cons (.cons (.cons (.cons (.cons (.cons (.cons (.cons .nil))))))))))) rfl (fun g6 => ?_)
    refine at_pure (pv_len Try.underlying49 rfl) rfl ?_
    refine at_pure (pv_move rfl) rfl ?_
    refine at_nil ?_
    refine ex_go ?_
    refine cd_block ?_
    refine cd_rounds 2 ?_
    refine cd_seq ?_
    refine cd_region ?_
    refine at_pure (pv_lss rfl rfl) rfl ?_
    refine at_nil ?_
    refine ex_go ?_
    refine cd_seq ?_
    refine cd_then rfl (by decide) ?_
    refine cd_skip ?_
    refine ex_go ?_
    refine cd_seq ?_
    refine cd_block ?_
    refine cd_seq ?_
    refine cd_region ?_
    refine at_pure (pv_indexLit Try.underlying49 cz_48 rfl rfl (by decide) rfl) rfl ?_
    refine at_pure (by exact pv_loads_box ag_48 rfl (.s (.s (.s (.s (.s (.s (.s (.s .z)))))))) (.take (.take .done))) rfl ?_
    refine at_does (does_alloc ze_48 .agg (fun _ => (.cons (.cons (.cons (.cons (.cons (.cons (.cons (.cons (.cons .nil))))))))))) rfl (fun g7 => ?_)
    refine at_turns (by exact turns_store sz_48 rfl rfl .agg rfl rfl (.s (.s (.s (.s (.s (.s (.s (.s (.s .z))))))))) (.rep (.rep .done)) (.s (.s (.s (.s (.s (.s (.s (.s (.s .z)))))))))) ?_
    refine at_nil ?_
    refine ex_go ?_
    refine cd_seq ?_
    refine cd_region ?_
    refine at_pure (by exact pv_loads_box ag_28 rfl (.s (.s (.s .z))) (.take (.take .done))) rfl ?_
    refine at_pure (pv_move rfl) rfl ?_
    refine at_pure (pv_indexArr Try.underlying48 cz_3 rfl rfl (by decide) rfl) rfl ?_
    refine at_pure (by exact pv_load ld_3 rfl (box_cell (.s (.s (.s (.s (.s (.s (.s (.s (.s .z))))))))) .z)) rfl ?_
    refine at_pure (pv_indexArr Try.underlying48 cz_3 rfl rfl (by decide) rfl) rfl ?_
    refine at_pure (by exact pv_load ld_3 rfl (box_cell (.s (.s (.s (.s (.s (.s (.s (.s (.s .z))))))))) (.s .z))) rfl ?_
    refine at_does (does_val cal22 rfl rfl rfl (fun w hs => longest_go z.an z.al z.cn z.cl z.ns z.ls a1 cap1 ws (x2) (x3) w (hs.rows len4 (by decide) .z) (hs.rows len4 (by decide) (.s .z)) (hw.at' hs))) rfl (fun _ => ?_)
    refine at_pure (pv_move rfl) rfl ?_
    refine at_pure (pv_extract rfl rfl) rfl ?_
    refine at_pure (pv_extract rfl rfl) rfl ?_
    refine at_pure (pv_assign rfl) rfl ?_
    refine at_pure (pv_assign rfl) rfl ?_
    refine at_nil ?_
    refine ex_go ?_
    refine cd_seq ?_
    refine cd_region ?_
    refine at_pure (by exact pv_loads_box ag_28 rfl (.s (.s (.s .z))) (.take (.take .done))) rfl ?_
    refine at_pure (pv_move rfl) rfl ?_
    refine at_pure (pv_indexArr Try.underlying48 cz_3 rfl rfl (by decide) rfl) rfl ?_
    refine at_pure (by exact pv_load ld_3 rfl (box_cell (.s (.s (.s (.s (.s (.s (.s (.s (.s .z))))))))) .z)) rfl ?_
    refine at_pure (pv_indexArr Try.underlying48 cz_3 rfl rfl (by decide) rfl) rfl ?_
    refine at_pure (by exact pv_load ld_3 rfl (box_cell (.s (.s (.s (.s (.s (.s (.s (.s (.s .z))))))))) (.s .z))) rfl ?_
    refine at_does (does_val cal23 rfl rfl rfl (fun w hs => longest_ref z.an z.al z.cn z.cl z.ns z.ls a1 cap1 ws (x2) (x3) w (hs.rows len4 (by decide) .z) (hs.rows len4 (by decide) (.s .z)) (hw.at' hs))) rfl (fun _ => ?_)
    refine at_pure (pv_move rfl) rfl ?_
    refine at_pure (pv_extract rfl rfl) rfl ?_
    refine at_pure (pv_extract rfl rfl) rfl ?_
    refine at_pure (pv_assign rfl) rfl ?_
    refine at_pure (pv_assign rfl) rfl ?_
    refine at_nil ?_
    refine ex_go ?_
    refine cd_seq ?_
    refine cd_region ?_
    refine at_pure (pv_move rfl) rfl ?_
    refine at_pure (pv_move rfl) rfl ?_
    refine at_pure (pv_neq_same rfl rfl) rfl ?_
    refine at_pure (pv_move rfl) rfl ?_
    refine at_pure_g rfl rfl rfl (pv_move rfl) rfl ?_
    refine at_pure_g rfl rfl rfl (pv_move rfl) rfl ?_
    refine at_pure_g rfl rfl rfl (pv_neq_same rfl rfl) rfl ?_
    refine at_pure (pv_pick_f rfl rfl rfl) rfl ?_
    refine at_nil ?_
    refine ex_go ?_
    refine cd_else rfl rfl ?_
    refine cd_skip ?_
    refine ex_in_normal (ex_go ?_)
    refine cd_region ?_
    refine at_pure (by first | exact pv_add_n rfl rfl (by unfold In64; omega) | exact pv_add rfl rfl) rfl ?_
    refine at_pure (pv_move rfl) rfl ?_
    refine at_nil ?_
    refine ex_round ?_
    refine cd_seq ?_
    refine cd_region ?_
    refine at_pure (pv_lss rfl rfl) rfl ?_
    refine at_nil ?_
    refine ex_go ?_
    refine cd_seq ?_
    refine cd_then rfl (by decide) ?_
    refine cd_skip ?_
    refine ex_go ?_
    refine cd_seq ?_
    refine cd_block ?_
    refine cd_seq ?_
    refine cd_region ?_
    refine at_pure (pv_indexLit Try.underlying49 cz_48 rfl rfl (by decide) rfl) rfl ?_
    refine at_pure (by exact pv_loads_box ag_48 rfl (.s (.s (.s (.s (.s (.s (.s (.s .z)))))))) (.skip (.skip (.take (.take .done))))) rfl ?_
    refine at_does (does_alloc ze_48 .agg (fun _ => (.cons (.cons (.cons (.cons (.cons (.cons (.cons (.cons (.cons (.cons .nil)))))))))))) rfl (fun g8 => ?_)
    refine at_turns (by exact turns_store sz_48 rfl rfl .agg rfl rfl (.s (.s (.s (.s (.s (.s (.s (.s (.s (.s .z)))))))))) (.rep (.rep .done)) (.s (.s (.s (.s (.s (.s (.s (.s (.s (.s .z))))))))))) ?_
    refine at_nil ?_
    refine ex_go ?_
    refine cd_seq ?_
    refine cd_region ?_
    refine at_pure (by exact pv_loads_box ag_28 rfl (.s (.s (.s .z))) (.take (.take .done))) rfl ?_
    refine at_pure (pv_move rfl) rfl ?_
    refine at_pure (pv_indexArr Try.underlying48 cz_3 rfl rfl (by decide) rfl) rfl ?_
    refine at_pure (by exact pv_load ld_3 rfl (box_cell (.s (.s (.s (.s (.s (.s (.s (.s (.s (.s .z)))))))))) .z)) rfl ?_
    refine at_pure (pv_indexArr Try.underlying48 cz_3 rfl rfl (by decide) rfl) rfl ?_
    refine at_pure (by exact pv_load ld_3 rfl (box_cell (.s (.s (.s (.s (.s (.s (.s (.s (.s (.s .z)))))))))) (.s .z))) rfl ?_
    refine at_does (does_val cal22 rfl rfl rfl (fun w hs => longest_go z.an z.al z.cn z.cl z.ns z.ls a1 cap1 ws (x4 % 26) (x5 % 26) w (hs.rows len4 (by decide) .z) (hs.rows len4 (by decide) (.s .z)) (hw.at' hs))) rfl (fun _ => ?_)
    refine at_pure (pv_move rfl) rfl ?_
    refine at_pure (pv_extract rfl rfl) rfl ?_
    refine at_pure (pv_extract rfl rfl) rfl ?_
    refine at_pure (pv_assign rfl) rfl ?_
    refine at_pure (pv_assign rfl) rfl ?_
    refine at_nil ?_
    refine ex_go ?_
    refine cd_seq ?_
    refine cd_region ?_
    refine at_pure (by exact pv_loads_box ag_28 rfl (.s (.s (.s .z))) (.take (.take .done))) rfl ?_
    refine at_pure (pv_move rfl) rfl ?_
    refine at_pure (pv_indexArr Try.underlying48 cz_3 rfl rfl (by decide) rfl) rfl ?_
    refine at_pure (by exact pv_load ld_3 rfl (box_cell (.s (.s (.s (.s (.s (.s (.s (.s (.s (.s .z)))))))))) .z)) rfl ?_
    refine at_pure (pv_indexArr Try.underlying48 cz_3 rfl rfl (by decide) rfl) rfl ?_
    refine at_pure (by exact pv_load ld_3 rfl (box_cell (.s (.s (.s (.s (.s (.s (.s (.s (.s (.s .z)))))))))) (.s .z))) rfl ?_
    refine at_does (does_val cal23 rfl rfl rfl (fun w hs => longest_ref z.an z.al z.cn z.cl z.ns z.ls a1 cap1 ws (x4 % 26) (x5 % 26) w (hs.rows len4 (by decide) .z) (hs.rows len4 (by decide) (.s .z)) (hw.at' hs))) rfl (fun _ => ?_)
    refine at_pure (pv_move rfl) rfl ?_
    refine at_pure (pv_extract rfl rfl) rfl ?_
    refine at_pure (pv_extract rfl rfl) rfl ?_
    refine at_pure (pv_assign rfl) rfl ?_
    refine at_pure (pv_assign rfl) rfl ?_
    refine at_nil ?_
    refine ex_go ?_
    refine cd_seq ?_
    refine cd_region ?_
    refine at_pure (pv_move rfl) rfl ?_
    refine at_pure (pv_move rfl) rfl ?_
    refine at_pure (pv_neq_same rfl rfl) rfl ?_
    refine at_pure (pv_move rfl) rfl ?_
    refine at_pure_g rfl rfl rfl (pv_move rfl) rfl ?_
    refine at_pure_g rfl rfl rfl (pv_move rfl) rfl ?_
    refine at_pure_g rfl rfl rfl (pv_neq_same rfl rfl) rfl ?_
    refine at_pure (pv_pick_f rfl rfl rfl) rfl ?_
    refine at_nil ?_
    refine ex_go ?_
    refine cd_else rfl rfl ?_
    refine cd_skip ?_
    refine ex_in_normal (ex_go ?_)
    refine cd_region ?_
    refine at_pure (by first | exact pv_add_n rfl rfl (by unfold In64; omega) | exact pv_add rfl rfl) rfl ?_
    refine at_pure (pv_move rfl) rfl ?_
    refine at_nil ?_
    refine ex_round ?_
    refine cd_seq ?_
    refine cd_region ?_
    refine at_pure (pv_lss rfl rfl) rfl ?_
    refine at_nil ?_
    refine ex_go ?_
    refine cd_seq ?_
    refine cd_else rfl (by decide) ?_
    refine cd_exit ?_
    refine ex_then_exit (ex_then_exit (ex_in (ex_in_normal (ex_go ?_))))
    refine cd_region ?_
    refine at_pure (by first | exact pv_add_n rfl rfl (by unfold In64; omega) | exact pv_add rfl rfl) rfl ?_
    refine at_pure (pv_move rfl) rfl ?_
    refine at_nil ?_
    refine ex_round ?_
    refine cd_seq ?_
    refine cd_region ?_
    refine at_pure (pv_lss rfl rfl) rfl ?_
    refine at_nil ?_
    refine ex_go ?_
    refine cd_seq ?_
    refine cd_else rfl (by decide) ?_
    refine cd_exit ?_
    refine ex_then_exit (ex_then_exit (ex_in (ex_go ?_)))
    refine cd_seq ?_
    refine cd_region ?_
    refine at_pure (pv_assign rfl) rfl ?_
    refine at_nil ?_
    refine ex_go ?_
    refine cd_ret ?_
    exact end_ret1 rfl rfl (fun w hs => Val.mk hs)

end Go.Proofs.Ytkejdfnpbkdllaa
