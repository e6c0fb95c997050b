/- The schedule: Compile, by the program and by the reference. -/
import Derived.Test.YtkejdfnpbkdllaaF25
import Derived.Test.YtkejdfnpbkdllaaSch5
set_option linter.unusedVariables false
set_option linter.unusedSimpArgs false
set_option maxRecDepth 20000
namespace Go.Proofs.Ytkejdfnpbkdllaa
open Go Go.RowKit Go.Proofs.YtkejdfnpbkdllaaV
theorem endsOf_nil (ns : List Q4) : endsOf ns [] = List.replicate ns.length (-1) := by
  unfold endsOf
  rw [List.eq_replicate_iff]
  refine ⟨List.length_map .., fun x hx => ?_⟩
  obtain ⟨z, _, rfl⟩ := List.mem_map.1 hx
  rfl
theorem compO_no {ns ls : List Q4} {cs : List Int} {wk : Int} (h : problemS ns ls cs wk = false) : compO ns ls cs wk = [] ∧ compE ns ls cs wk = 1 := by
  unfold compO compE; rw [h]; exact ⟨rfl, rfl⟩
theorem compO_yes {ns ls : List Q4} {cs : List Int} {wk : Nat} (h : problemS ns ls cs (wk : Int) = true) : compO ns ls cs wk = compS ns ls cs wk ∧ compE ns ls cs wk = 0 := by
  unfold compO compE; rw [h]; exact ⟨by rw [Int.toNat_natCast]; rfl, rfl⟩

theorem compile_no (a b : Option Addr) (ca cb : Nat) (ns ls : List Q4) (c : Option Addr) (cc : Nat) (cs : List Int) (wk : Int) (w : World) (hn : Sl [] enc4 4 w a ca ns) (hl : Sl [] enc4 4 w b cb ls) (hc : Sl [] enc1 1 w c cc cs) (hp : problemS ns ls cs wk = false) : Calls Try.prog 17 [.agg #[.slice a ns.length ca, .slice b ls.length cb], .slice c cs.length cc, .int .i64 wk].toArray w (Gives (fun z : Option Addr × Nat => .tuple #[.slice z.1 (compO ns ls cs wk).length z.2, .int .i64 (compE ns ls cs wk)]) (fun z => [RowP enc4 4 39 z.1 z.2 (compO ns ls cs wk)]) w) := by
  refine calls_body (n := 45) Try.func17 rfl rfl rfl (St.init _ []) ?_
  refine cd_seq ?_
  refine cd_region ?_
  refine at_does (does_box rfl .agg (fun _ => .nil)) rfl (fun g1 => ?_)
  refine at_pure (pv_assign rfl) rfl ?_
  refine at_pure (pv_assign rfl) rfl ?_
  refine at_nil ?_
  refine ex_go ?_
  refine cd_seq ?_
  refine cd_region ?_
  refine at_pure (by exact pv_loads_box ag_28 rfl .z (.take (.take .done))) rfl ?_
  refine at_pure (pv_move rfl) rfl ?_
  refine at_pure (pv_move rfl) rfl ?_
  refine at_does (does_val cal43 rfl rfl rfl (fun w hs => read_no a b ca cb ns ls c cc cs wk w (hn.at' hs) (hl.at' hs) (hc.at' hs) hp)) rfl (fun _ => ?_)
  refine at_pure (pv_move rfl) rfl ?_
  refine at_pure (pv_extract rfl rfl) rfl ?_
  refine at_pure (pv_extract rfl rfl) rfl ?_
  refine at_pure (pv_assign rfl) rfl ?_
  refine at_pure (pv_assign rfl) rfl ?_
  refine at_nil ?_
  refine ex_go ?_
  refine cd_seq ?_
  refine cd_seq ?_
  refine cd_region ?_
  refine at_pure (pv_move rfl) rfl ?_
  refine at_pure (pv_not rfl) rfl ?_
  refine at_nil ?_
  refine ex_go ?_
  refine cd_then rfl rfl ?_
  refine cd_seq ?_
  refine Cd.addNil 39 enc4 4 (.cons .nil) ?_
  refine cd_region ?_
  refine at_pure (pv_assign rfl) rfl ?_
  refine at_pure (pv_assign rfl) rfl ?_
  refine at_nil ?_
  refine ex_go ?_
  refine cd_ret ?_
  refine ex_then_ret ?_
  exact end_ret2 rfl rfl rfl (fun w hs => by have h9 := compO_no hp; exact Gives.mk' (none, 0) (by rw [h9.1, h9.2]; rfl) (by rw [h9.1]; repeat first | exact sLn _ | apply sLc | apply sLd) hs)

set_option maxRecDepth 10000 in
set_option maxHeartbeats 2000000 in
theorem compile_yes (a b : Option Addr) (ca cb : Nat) (ns ls : List Q4) (c : Option Addr) (cc : Nat) (cs : List Int) (wk : Nat) (w : World) (hn : Sl [] enc4 4 w a ca ns) (hl : Sl [] enc4 4 w b cb ls) (hc : Sl [] enc1 1 w c cc cs) (hp : problemS ns ls cs (wk : Int) = true) : Calls Try.prog 17 [.agg #[.slice a ns.length ca, .slice b ls.length cb], .slice c cs.length cc, .int .i64 (wk : Int)].toArray w (Gives (fun z : Option Addr × Nat => .tuple #[.slice z.1 (compO ns ls cs (wk : Int)).length z.2, .int .i64 (compE ns ls cs (wk : Int))]) (fun z => [RowP enc4 4 39 z.1 z.2 (compO ns ls cs (wk : Int))]) w) := by
  have hpo := prob_of hp
  have hvf := valid_facts hpo.1
  have hg := (valid_iff ns ls).1 hpo.1
  refine calls_body (n := 45) Try.func17 rfl rfl rfl (St.init _ []) ?_
  refine cd_seq ?_
  refine cd_region ?_
  refine at_does (does_box rfl .agg (fun _ => .nil)) rfl (fun g1 => ?_)
  refine at_pure (pv_assign rfl) rfl ?_
  refine at_pure (pv_assign rfl) rfl ?_
  refine at_nil ?_
  refine ex_go ?_
  refine cd_seq ?_
  refine cd_region ?_
  refine at_pure (by exact pv_loads_box ag_28 rfl .z (.take (.take .done))) rfl ?_
  refine at_pure (pv_move rfl) rfl ?_
  refine at_pure (pv_move rfl) rfl ?_
  refine at_mades (does_makes (X := PZ) (val := fun z => .tuple #[.pointer (some ⟨z.gp, 0, none⟩), .bool true]) (Δ := fun z => [MapP fI z.gm z.pm, RowP encH 1 22 (some ⟨z.gb, 0, none⟩) ns.length z.hds, Box z.gp [.slice a ns.length ca, .slice b ls.length cb, .slice c cs.length cc, .map (some z.gm), .slice z.oa (placesO ns ls).length z.oc, .slice (some ⟨z.gb, 0, none⟩) ns.length ns.length] 90, RowP enc1 1 3 z.oa z.oc (placesO ns ls), RowsP enc1 1 3 z.hds]) (good := PbOk ns ls) cal43 rfl rfl rfl (fun w hs => by have h9 := read_yes a b ca cb ns ls c cc cs (wk : Int) w (hn.at' hs) (hl.at' hs) (hc.at' hs) hp; exact h9) (fun _ => (.cons .nil))) rfl (fun p hok => ?_)
  refine at_pure (pv_move rfl) rfl ?_
  refine at_pure (pv_extract rfl rfl) rfl ?_
  refine at_pure (pv_extract rfl rfl) rfl ?_
  refine at_pure (pv_assign rfl) rfl ?_
  refine at_pure (pv_assign rfl) rfl ?_
  refine at_nil ?_
  refine ex_go ?_
  refine cd_seq ?_
  refine cd_seq ?_
  refine cd_region ?_
  refine at_pure (pv_move rfl) rfl ?_
  refine at_pure (pv_not rfl) rfl ?_
  refine at_nil ?_
  refine ex_go ?_
  refine cd_else rfl rfl ?_
  refine cd_skip ?_
  refine ex_go ?_
  refine cd_cut (σ := Nat × Nat × Nat) (fun s => [(3, Value.pointer (some ⟨g1, 0, none⟩)), (10, Value.pointer (some ⟨s.2.2, 0, none⟩))]) (fun s => [Box g1 [.slice a ns.length ca, .slice b ls.length cb] 28, MapP fI p.gm p.pm, RowP encH 1 22 (some ⟨p.gb, 0, none⟩) ns.length p.hds, Box p.gp [.slice a ns.length ca, .slice b ls.length cb, .slice c cs.length cc, .map (some p.gm), .slice p.oa (placesO ns ls).length p.oc, .slice (some ⟨p.gb, 0, none⟩) ns.length ns.length] 90, RowP enc1 1 3 p.oa p.oc (placesO ns ls), RowsP enc1 1 3 p.hds, RowP enc1 1 3 (some ⟨s.1, 0, none⟩) wk (List.replicate wk 0), RowP enc1 1 3 (some ⟨s.2.1, 0, none⟩) ns.length (List.replicate ns.length (-1)), Box s.2.2 [.pointer (some ⟨p.gp, 0, none⟩), .int .i64 0, .slice (some ⟨s.1, 0, none⟩) wk wk, .slice (some ⟨s.2.1, 0, none⟩) ns.length ns.length, .slice none 0 0] 96]) (fun _ => True) ?_ ?_
  · skip
    refine cd_draw' 10 follows ?_
    refine dr_take 0 rfl (by kernel_rfl) (.refl _) (pv_move rfl) rfl ?_
    refine dr_take 1 rfl (by kernel_rfl) (.refl _) (pv_move rfl) rfl ?_
    refine dr_take 4 rfl (by kernel_rfl) (.refl _) (pv_field0 fa_28_0 rfl (r := 0) rfl) rfl ?_
    refine dr_take 5 rfl (by kernel_rfl) (.refl _) (by exact pv_load ld_25 rfl (box_cell .z .z)) rfl ?_
    refine dr_take 6 rfl (by kernel_rfl) (.refl _) (pv_len Try.underlying25 rfl) rfl ?_
    refine dr_two 2 3 (by kernel_rfl) rfl rfl ?_ ?_
    · skip
      refine at_does (does_make (enc := enc1) (z0 := (0 : Int)) (v0 := .int .i64 0) rfl Try.underlying22 mk_3 (by decide) rfl rfl (by omega) (fun _ => (.cons (.cons (.cons (.cons (.cons (.cons .nil)))))))) rfl (fun gf => ?_)
      refine at_nil (dr_next (fun _ => (by repeat first | exact sLn _ | apply sLc | apply sLd)) ?_)
      refine dr_one 3 (by kernel_rfl) rfl ?_
      refine at_does (does_list (by rfl) (by exact (bs_22_1_0 _)) (by exact (fun _ => (.cons (.cons (.cons (.cons (.cons (.cons (.cons .nil)))))))))) rfl (fun g3 => ?_)
      refine at_nil (dr_next (fun _ => (by repeat first | exact sLn _ | apply sLc | apply sLd)) ?_)
      refine dr_one 7 (by kernel_rfl) rfl ?_
      refine at_does (does_gives (X := Nat) (val := fun g => .slice (some ⟨g, 0, none⟩) ns.length ns.length) (Δ := fun g => [RowP enc1 1 3 (some ⟨g, 0, none⟩) ns.length (List.replicate ns.length (-1))]) cal46 rfl rfl rfl (fun w hs => by have h9 := repeat_go _ 1 ns.length w (hs.boxes (xs := [-1]) len1 (.s (.s (.s (.s (.s (.s (.s .z))))))) rfl (by simp)) (by omega); exact h9) (fun _ => (.cons (.cons (.cons (.cons (.cons (.cons (.cons (.cons .nil)))))))))) rfl (fun ge => ?_)
      refine at_nil (dr_next (fun _ => (by repeat first | exact sLn _ | apply sLc | apply sLd)) ?_)
      refine dr_take 8 rfl (by kernel_rfl) (by repeat first | exact sLn _ | apply sLc | apply sLd) (pv_build rfl (bu_96_0_2_3 _ _ _ _ _ _ _)) rfl ?_
      refine dr_one 9 (by kernel_rfl) rfl ?_
      refine at_does (does_box rfl .agg (fun _ => (.cons (.cons (.cons (.cons (.cons (.cons (.cons (.cons (.cons .nil))))))))))) rfl (fun gl => ?_)
      refine at_nil (dr_next (fun _ => (by repeat first | exact sLn _ | apply sLc | apply sLd)) ?_)
      refine dr_one 10 (by kernel_rfl) rfl ?_
      refine at_pure (pv_assign rfl) rfl ?_
      refine at_nil (dr_next (fun h => by cases h) ?_)
      refine dr_done (by kernel_rfl) ?_
      first | exact ex_meet (gf, ge, gl) trivial ⟨rfl, rfl, trivial⟩ (by (repeat first | apply sLc | apply sLd); exact sLn _) | exact ex_meet_p (gf, ge, gl) trivial ⟨rfl, rfl, trivial⟩ (.cons _ (.cons _ (.cons _ (.cons _ (.cons _ (.cons _ (.cons _ (.swap _ _ _)))))))) (by repeat first | exact sLn _ | apply sLc | apply sLd)
    · skip
      refine at_does (does_list (by rfl) (by exact (bs_22_1_0 _)) (by exact (fun _ => (.cons (.cons (.cons (.cons (.cons (.cons .nil))))))))) rfl (fun g5 => ?_)
      refine at_nil (dr_next (fun _ => (by repeat first | exact sLn _ | apply sLc | apply sLd)) ?_)
      refine dr_two 2 7 (by kernel_rfl) rfl rfl ?_ ?_
      · skip
        refine at_does (does_make (enc := enc1) (z0 := (0 : Int)) (v0 := .int .i64 0) rfl Try.underlying22 mk_3 (by decide) rfl rfl (by omega) (fun _ => (.cons (.cons (.cons (.cons (.cons (.cons (.cons .nil))))))))) rfl (fun gf => ?_)
        refine at_nil (dr_next (fun _ => (by repeat first | exact sLn _ | apply sLc | apply sLd)) ?_)
        refine dr_one 7 (by kernel_rfl) rfl ?_
        refine at_does (does_gives (X := Nat) (val := fun g => .slice (some ⟨g, 0, none⟩) ns.length ns.length) (Δ := fun g => [RowP enc1 1 3 (some ⟨g, 0, none⟩) ns.length (List.replicate ns.length (-1))]) cal46 rfl rfl rfl (fun w hs => by have h9 := repeat_go _ 1 ns.length w (hs.boxes (xs := [-1]) len1 (.s (.s (.s (.s (.s (.s .z)))))) rfl (by simp)) (by omega); exact h9) (fun _ => (.cons (.cons (.cons (.cons (.cons (.cons (.cons (.cons .nil)))))))))) rfl (fun ge => ?_)
        refine at_nil (dr_next (fun _ => (by repeat first | exact sLn _ | apply sLc | apply sLd)) ?_)
        refine dr_take 8 rfl (by kernel_rfl) (by repeat first | exact sLn _ | apply sLc | apply sLd) (pv_build rfl (bu_96_0_2_3 _ _ _ _ _ _ _)) rfl ?_
        refine dr_one 9 (by kernel_rfl) rfl ?_
        refine at_does (does_box rfl .agg (fun _ => (.cons (.cons (.cons (.cons (.cons (.cons (.cons (.cons (.cons .nil))))))))))) rfl (fun gl => ?_)
        refine at_nil (dr_next (fun _ => (by repeat first | exact sLn _ | apply sLc | apply sLd)) ?_)
        refine dr_one 10 (by kernel_rfl) rfl ?_
        refine at_pure (pv_assign rfl) rfl ?_
        refine at_nil (dr_next (fun h => by cases h) ?_)
        refine dr_done (by kernel_rfl) ?_
        first | exact ex_meet (gf, ge, gl) trivial ⟨rfl, rfl, trivial⟩ (by (repeat first | apply sLc | apply sLd); exact sLn _) | exact ex_meet_p (gf, ge, gl) trivial ⟨rfl, rfl, trivial⟩ (.cons _ (.cons _ (.cons _ (.cons _ (.cons _ (.cons _ (.cons _ (.swap _ _ _)))))))) (by repeat first | exact sLn _ | apply sLc | apply sLd)
      · skip
        refine at_does (does_gives (X := Nat) (val := fun g => .slice (some ⟨g, 0, none⟩) ns.length ns.length) (Δ := fun g => [RowP enc1 1 3 (some ⟨g, 0, none⟩) ns.length (List.replicate ns.length (-1))]) cal46 rfl rfl rfl (fun w hs => by have h9 := repeat_go _ 1 ns.length w (hs.boxes (xs := [-1]) len1 (.s (.s (.s (.s (.s (.s .z)))))) rfl (by simp)) (by omega); exact h9) (fun _ => (.cons (.cons (.cons (.cons (.cons (.cons (.cons .nil))))))))) rfl (fun ge => ?_)
        refine at_nil (dr_next (fun _ => (by repeat first | exact sLn _ | apply sLc | apply sLd)) ?_)
        refine dr_one 2 (by kernel_rfl) rfl ?_
        refine at_does (does_make (enc := enc1) (z0 := (0 : Int)) (v0 := .int .i64 0) rfl Try.underlying22 mk_3 (by decide) rfl rfl (by omega) (fun _ => (.cons (.cons (.cons (.cons (.cons (.cons (.cons (.cons .nil)))))))))) rfl (fun gf => ?_)
        refine at_nil (dr_next (fun _ => (by repeat first | exact sLn _ | apply sLc | apply sLd)) ?_)
        refine dr_take 8 rfl (by kernel_rfl) (by repeat first | exact sLn _ | apply sLc | apply sLd) (pv_build rfl (bu_96_0_2_3 _ _ _ _ _ _ _)) rfl ?_
        refine dr_one 9 (by kernel_rfl) rfl ?_
        refine at_does (does_box rfl .agg (fun _ => (.cons (.cons (.cons (.cons (.cons (.cons (.cons (.cons (.cons .nil))))))))))) rfl (fun gl => ?_)
        refine at_nil (dr_next (fun _ => (by repeat first | exact sLn _ | apply sLc | apply sLd)) ?_)
        refine dr_one 10 (by kernel_rfl) rfl ?_
        refine at_pure (pv_assign rfl) rfl ?_
        refine at_nil (dr_next (fun h => by cases h) ?_)
        refine dr_done (by kernel_rfl) ?_
        first | exact ex_meet (gf, ge, gl) trivial ⟨rfl, rfl, trivial⟩ (by (repeat first | apply sLc | apply sLd); exact sLn _) | exact ex_meet_p (gf, ge, gl) trivial ⟨rfl, rfl, trivial⟩ (.cons _ (.cons _ (.cons _ (.cons _ (.cons _ (.cons _ (.cons _ (.swap _ _ _)))))))) (by repeat first | exact sLn _ | apply sLc | apply sLd)
  · rintro ⟨gf, ge, gl⟩ -
    dsimp only
    refine Cd.addNil 39 enc4 4 (.cons (.cons (.cons (.cons (.cons (.cons (.cons (.cons (.cons .nil))))))))) ?_
    refine cd_seq ?_
    refine cd_block ?_
    refine cd_loop (σ := CS × Option Addr × Nat) (fun s => [(3, Value.pointer (some ⟨g1, 0, none⟩)), (10, Value.pointer (some ⟨gl, 0, none⟩))]) (fun s => [Box g1 [.slice a ns.length ca, .slice b ls.length cb] 28, MapP fI p.gm p.pm, RowP encH 1 22 (some ⟨p.gb, 0, none⟩) ns.length p.hds, Box p.gp [.slice a ns.length ca, .slice b ls.length cb, .slice c cs.length cc, .map (some p.gm), .slice p.oa (placesO ns ls).length p.oc, .slice (some ⟨p.gb, 0, none⟩) ns.length ns.length] 90, RowP enc1 1 3 p.oa p.oc (placesO ns ls), RowsP enc1 1 3 p.hds, RowP enc1 1 3 (some ⟨gf, 0, none⟩) wk s.1.b, RowP enc1 1 3 (some ⟨ge, 0, none⟩) ns.length (endsOf ns s.1.l), Box gl [.pointer (some ⟨p.gp, 0, none⟩), .int .i64 s.1.t, .slice (some ⟨gf, 0, none⟩) (s.1.b).length wk, .slice (some ⟨ge, 0, none⟩) (endsOf ns s.1.l).length ns.length, .slice s.2.1 (s.1.l).length s.2.2] 96, RowP enc4 4 39 s.2.1 s.2.2 s.1.l]) (fun s => Run ns ls cs wk s.1 ∧ Going ns ls cs wk s.1) (fun s => pot ns s.1) (⟨[], List.replicate wk 0, 0⟩, none, 0) ⟨Run.start, Going.start⟩ ⟨rfl, rfl, trivial⟩ (by simp only [List.length_replicate, endsOf_len, endsOf_nil, List.length_nil]; repeat first | exact sLn _ | apply sLc | apply sLd) ?_
    rintro ⟨st, sa, sc⟩ ⟨hR, hG⟩
    dsimp only at hR hG ⊢
    refine cd_seq ?_
    refine cd_seq ?_
    refine cd_draw' 9 follows ?_
    refine dr_take 0 rfl (by kernel_rfl) (.refl _) (pv_move rfl) rfl ?_
    refine dr_take 1 rfl (by kernel_rfl) (.refl _) (pv_nilCheck rfl) rfl ?_
    refine dr_take 2 rfl (by kernel_rfl) (.refl _) (pv_field0 fa_96_4 rfl (r := 4) rfl) rfl ?_
    refine dr_take 3 rfl (by kernel_rfl) (.refl _) (by exact pv_load ld_23 rfl (box_cell (.s (.s (.s (.s (.s (.s (.s (.s .z)))))))) (.s (.s (.s (.s .z)))))) rfl ?_
    refine dr_take 4 rfl (by kernel_rfl) (.refl _) (pv_len Try.underlying23 rfl) rfl ?_
    refine dr_take 5 rfl (by kernel_rfl) (.refl _) (pv_field0 fa_28_0 rfl (r := 0) rfl) rfl ?_
    refine dr_take 6 rfl (by kernel_rfl) (.refl _) (by exact pv_load ld_25 rfl (box_cell .z .z)) rfl ?_
    refine dr_take 7 rfl (by kernel_rfl) (.refl _) (pv_len Try.underlying25 rfl) rfl ?_
    refine dr_take 8 rfl (by kernel_rfl) (.refl _) (pv_lss rfl rfl) rfl ?_
    refine dr_done (by kernel_rfl) ?_
    refine ex_go ?_
    refine cd_if rfl (fun hlt => ?_) (fun hlt => ?_)
    · have hlen : st.l.length < ns.length := by simpa using hlt
      refine cd_skip ?_
      refine ex_go ?_
      refine cd_block ?_
      refine cd_region ?_
      refine at_pure (pv_move rfl) rfl ?_
      refine at_mades (does_uses (X := Option Addr × Nat) (val := fun _ => .tuple #[]) (good := fun _ => True) (Δ' := fun z => [MapP fI p.gm p.pm, RowP encH 1 22 (some ⟨p.gb, 0, none⟩) ns.length p.hds, Box p.gp [.slice a ns.length ca, .slice b ls.length cb, .slice c cs.length cc, .map (some p.gm), .slice p.oa (placesO ns ls).length p.oc, .slice (some ⟨p.gb, 0, none⟩) ns.length ns.length] 90, RowP enc1 1 3 p.oa p.oc (placesO ns ls), RowsP enc1 1 3 p.hds, RowP enc1 1 3 (some ⟨gf, 0, none⟩) wk (compStep ns ls cs (orderS ns ls) st).b, RowP enc1 1 3 (some ⟨ge, 0, none⟩) ns.length (endsOf ns (compStep ns ls cs (orderS ns ls) st).l), Box gl [.pointer (some ⟨p.gp, 0, none⟩), .int .i64 (compStep ns ls cs (orderS ns ls) st).t, .slice (some ⟨gf, 0, none⟩) ((compStep ns ls cs (orderS ns ls) st).b).length wk, .slice (some ⟨ge, 0, none⟩) (endsOf ns (compStep ns ls cs (orderS ns ls) st).l).length ns.length, .slice z.1 ((compStep ns ls cs (orderS ns ls) st).l).length z.2] 96, RowP enc4 4 39 z.1 z.2 (compStep ns ls cs (orderS ns ls) st).l]) [Box g1 [.slice a ns.length ca, .slice b ls.length cb] 28] [MapP fI p.gm p.pm, RowP encH 1 22 (some ⟨p.gb, 0, none⟩) ns.length p.hds, Box p.gp [.slice a ns.length ca, .slice b ls.length cb, .slice c cs.length cc, .map (some p.gm), .slice p.oa (placesO ns ls).length p.oc, .slice (some ⟨p.gb, 0, none⟩) ns.length ns.length] 90, RowP enc1 1 3 p.oa p.oc (placesO ns ls), RowsP enc1 1 3 p.hds, RowP enc1 1 3 (some ⟨gf, 0, none⟩) wk st.b, RowP enc1 1 3 (some ⟨ge, 0, none⟩) ns.length (endsOf ns st.l), Box gl [.pointer (some ⟨p.gp, 0, none⟩), .int .i64 st.t, .slice (some ⟨gf, 0, none⟩) (st.b).length wk, .slice (some ⟨ge, 0, none⟩) (endsOf ns st.l).length ns.length, .slice sa (st.l).length sc] 96, RowP enc4 4 39 sa sc st.l] cal47 rfl rfl rfl rfl (fun w hs => by have h9 := step_go a b ca cb ns ls c cc cs p gl gf ge sa sc wk st w (St.own' (Γ := [Box g1 [.slice a ns.length ca, .slice b ls.length cb] 28]) (Δ := [MapP fI p.gm p.pm, RowP encH 1 22 (some ⟨p.gb, 0, none⟩) ns.length p.hds, Box p.gp [.slice a ns.length ca, .slice b ls.length cb, .slice c cs.length cc, .map (some p.gm), .slice p.oa (placesO ns ls).length p.oc, .slice (some ⟨p.gb, 0, none⟩) ns.length ns.length] 90, RowP enc1 1 3 p.oa p.oc (placesO ns ls), RowsP enc1 1 3 p.hds, RowP enc1 1 3 (some ⟨gf, 0, none⟩) wk st.b, RowP enc1 1 3 (some ⟨ge, 0, none⟩) ns.length (endsOf ns st.l), Box gl [.pointer (some ⟨p.gp, 0, none⟩), .int .i64 st.t, .slice (some ⟨gf, 0, none⟩) (st.b).length wk, .slice (some ⟨ge, 0, none⟩) (endsOf ns st.l).length ns.length, .slice sa (st.l).length sc] 96, RowP enc4 4 39 sa sc st.l]) hs) (hn.off hs (fun q hq => List.mem_cons_of_mem _ hq)) (hc.off hs (fun q hq => List.mem_cons_of_mem _ hq)) hok hp hR hlen; exact h9) (fun _ => rfl)) rfl (fun z9 hz9 => ?_)
      refine at_nil ?_
      refine ex_in_normal ?_
      have hst := hR.step hg hpo.2.2.2.2 (by omega) hlen
      exact ex_meet ((compStep ns ls cs (orderS ns ls) st), z9.1, z9.2) ⟨⟨hst.1, hG.step hlen hst.2⟩, hst.2⟩ ⟨rfl, rfl, trivial⟩ (by repeat first | exact sLn _ | apply sLc | apply sLd)
    · skip
      refine cd_exit ?_
      refine ex_then_exit (ex_then_exit (ex_in (ex_go ?_)))
      refine cd_seq ?_
      refine cd_region ?_
      refine at_pure (pv_move rfl) rfl ?_
      refine at_pure (pv_nilCheck rfl) rfl ?_
      refine at_pure (pv_field0 fa_96_4 rfl (r := 4) rfl) rfl ?_
      refine at_pure (by exact pv_load ld_23 rfl (box_cell (.s (.s (.s (.s (.s (.s (.s (.s .z)))))))) (.s (.s (.s (.s .z)))))) rfl ?_
      refine at_pure (pv_assign rfl) rfl ?_
      refine at_pure (pv_assign rfl) rfl ?_
      refine at_nil ?_
      refine ex_go ?_
      refine cd_ret ?_
      exact end_ret2 rfl rfl rfl (fun w hs => by have h9 := compO_yes hp; have h8 := hG.stop (by simpa using hlt); rw [h8] at h9; exact Gives.mk' (sa, sc) (by rw [h9.1, h9.2]) (by rw [h9.1]; repeat first | exact sLn _ | apply sLc | apply sLd) hs)

theorem compile_full (a b : Option Addr) (ca cb : Nat) (ns ls : List Q4) (c : Option Addr) (cc : Nat) (cs : List Int) (wk : Int) (w : World) (hn : Sl [] enc4 4 w a ca ns) (hl : Sl [] enc4 4 w b cb ls) (hc : Sl [] enc1 1 w c cc cs) :
    Calls Try.prog 17 [.agg #[.slice a ns.length ca, .slice b ls.length cb], .slice c cs.length cc, .int .i64 wk].toArray w (Gives (fun z : Option Addr × Nat => .tuple #[.slice z.1 (compO ns ls cs wk).length z.2, .int .i64 (compE ns ls cs wk)]) (fun z => [RowP enc4 4 39 z.1 z.2 (compO ns ls cs wk)]) w) := by
  cases hp : problemS ns ls cs wk
  · exact compile_no a b ca cb ns ls c cc cs wk w hn hl hc hp
  · have hpo := prob_of hp
    obtain ⟨m, rfl⟩ := Int.eq_ofNat_of_zero_le (show 0 ≤ wk by omega)
    exact compile_yes a b ca cb ns ls c cc cs m w hn hl hc hp

theorem compileR_no (a b : Option Addr) (ca cb : Nat) (ns ls : List Q4) (c : Option Addr) (cc : Nat) (cs : List Int) (wk : Int) (w : World) (hn : Sl [] enc4 4 w a ca ns) (hl : Sl [] enc4 4 w b cb ls) (hc : Sl [] enc1 1 w c cc cs) (hp : problemS ns ls cs wk = false) : Calls Try.prog 14 [.agg #[.slice a ns.length ca, .slice b ls.length cb], .slice c cs.length cc, .int .i64 wk].toArray w (Gives (fun z : Option Addr × Nat => .tuple #[.slice z.1 (compO ns ls cs wk).length z.2, .int .i64 (compE ns ls cs wk)]) (fun z => [RowP enc4 4 39 z.1 z.2 (compO ns ls cs wk)]) w) := by
  refine calls_body (n := 73) Try.func14 rfl rfl rfl (St.init _ []) ?_
  refine cd_seq ?_
  refine cd_region ?_
  refine at_does (does_box rfl .agg (fun _ => .nil)) rfl (fun g1 => ?_)
  refine at_pure (pv_assign rfl) rfl ?_
  refine at_pure (pv_assign rfl) rfl ?_
  refine at_nil ?_
  refine ex_go ?_
  refine cd_seq ?_
  refine cd_seq ?_
  refine cd_region ?_
  refine at_pure (by exact pv_loads_box ag_28 rfl .z (.take (.take .done))) rfl ?_
  refine at_pure (pv_move rfl) rfl ?_
  refine at_pure (pv_move rfl) rfl ?_
  refine at_does (does_val (v := .bool false) cal37 rfl rfl rfl (fun w hs => by have h9 := problem_ref a b ca cb ns ls c cc cs wk w (hn.at' hs) (hl.at' hs) (hc.at' hs); rw [hp] at h9; exact h9)) rfl (fun _ => ?_)
  refine at_pure (pv_not rfl) rfl ?_
  refine at_nil ?_
  refine ex_go ?_
  refine cd_then rfl rfl ?_
  refine cd_seq ?_
  refine Cd.addNil 39 enc4 4 (.cons .nil) ?_
  refine cd_region ?_
  refine at_pure (pv_assign rfl) rfl ?_
  refine at_pure (pv_assign rfl) rfl ?_
  refine at_nil ?_
  refine ex_go ?_
  refine cd_ret ?_
  refine ex_then_ret ?_
  exact end_ret2 rfl rfl rfl (fun w hs => by have h9 := compO_no hp; exact Gives.mk' (none, 0) (by rw [h9.1, h9.2]; rfl) (by rw [h9.1]; repeat first | exact sLn _ | apply sLc | apply sLd) hs)

set_option maxRecDepth 10000 in
set_option maxHeartbeats 2000000 in
theorem compileR_yes (a b : Option Addr) (ca cb : Nat) (ns ls : List Q4) (c : Option Addr) (cc : Nat) (cs : List Int) (wk : Nat) (w : World) (hn : Sl [] enc4 4 w a ca ns) (hl : Sl [] enc4 4 w b cb ls) (hc : Sl [] enc1 1 w c cc cs) (hp : problemS ns ls cs (wk : Int) = true) : Calls Try.prog 14 [.agg #[.slice a ns.length ca, .slice b ls.length cb], .slice c cs.length cc, .int .i64 (wk : Int)].toArray w (Gives (fun z : Option Addr × Nat => .tuple #[.slice z.1 (compO ns ls cs (wk : Int)).length z.2, .int .i64 (compE ns ls cs (wk : Int))]) (fun z => [RowP enc4 4 39 z.1 z.2 (compO ns ls cs (wk : Int))]) w) := by
  have hpo := prob_of hp
  have hvf := valid_facts hpo.1
  have hg := (valid_iff ns ls).1 hpo.1
  refine calls_body (n := 73) Try.func14 rfl rfl rfl (St.init _ []) ?_
  refine cd_seq ?_
  refine cd_region ?_
  refine at_does (does_box rfl .agg (fun _ => .nil)) rfl (fun g1 => ?_)
  refine at_pure (pv_assign rfl) rfl ?_
  refine at_pure (pv_assign rfl) rfl ?_
  refine at_nil ?_
  refine ex_go ?_
  refine cd_seq ?_
  refine cd_seq ?_
  refine cd_region ?_
  refine at_pure (by exact pv_loads_box ag_28 rfl .z (.take (.take .done))) rfl ?_
  refine at_pure (pv_move rfl) rfl ?_
  refine at_pure (pv_move rfl) rfl ?_
  refine at_does (does_val (v := .bool true) cal37 rfl rfl rfl (fun w hs => by have h9 := problem_ref a b ca cb ns ls c cc cs (wk : Int) w (hn.at' hs) (hl.at' hs) (hc.at' hs); rw [hp] at h9; exact h9)) rfl (fun _ => ?_)
  refine at_pure (pv_not rfl) rfl ?_
  refine at_nil ?_
  refine ex_go ?_
  refine cd_else rfl rfl ?_
  refine cd_skip ?_
  refine ex_go ?_
  refine cd_seq ?_
  refine cd_region ?_
  refine at_pure (by exact pv_loads_box ag_28 rfl .z (.take (.take .done))) rfl ?_
  refine at_does (does_gives (X := Option Addr × Nat) (val := fun z => .tuple #[.slice z.1 (orderS ns ls).length z.2, .int .i64 0]) (Δ := fun z => [RowP enc1 1 3 z.1 z.2 (orderS ns ls)]) cal38 rfl rfl rfl (fun w hs => by have h9 := order2_ok a b ca cb w (hn.at' hs) (hl.at' hs) hpo.1; exact h9) (fun _ => (.cons .nil))) rfl (fun z0 => ?_)
  refine at_pure (pv_move rfl) rfl ?_
  refine at_pure (pv_extract rfl rfl) rfl ?_
  refine at_pure (pv_extract rfl rfl) rfl ?_
  refine at_pure (pv_assign rfl) rfl ?_
  refine at_pure (pv_assign rfl) rfl ?_
  refine at_nil ?_
  refine ex_go ?_
  refine cd_seq ?_
  refine cd_region ?_
  refine at_pure (pv_move rfl) rfl ?_
  refine at_does (does_make (enc := enc1) (z0 := (0 : Int)) (v0 := .int .i64 0) rfl Try.underlying22 mk_3 (by decide) rfl rfl (by omega) (fun _ => (.cons (.cons .nil)))) rfl (fun gf => ?_)
  refine at_pure (pv_assign rfl) rfl ?_
  refine at_nil ?_
  refine ex_go ?_
  refine cd_seq ?_
  refine Cd.addNil 39 enc4 4 (.cons (.cons (.cons .nil))) ?_
  refine cd_region ?_
  refine at_pure (pv_assign rfl) rfl ?_
  refine at_nil ?_
  refine ex_go ?_
  refine cd_seq ?_
  refine cd_region ?_
  refine at_pure (pv_assign rfl) rfl ?_
  refine at_nil ?_
  refine ex_go ?_
  refine cd_seq ?_
  refine cd_block ?_
  refine cd_loop (σ := CS × Option Addr × Nat) (fun s => [(1, .slice c cs.length cc), (3, Value.pointer (some ⟨g1, 0, none⟩)), (8, .slice z0.1 (orderS ns ls).length z0.2), (10, .slice (some ⟨gf, 0, none⟩) wk wk), (11, .slice s.2.1 s.1.l.length s.2.2), (12, .int .i64 s.1.t)]) (fun s => [Box g1 [.slice a ns.length ca, .slice b ls.length cb] 28, RowP enc1 1 3 z0.1 z0.2 (orderS ns ls), RowP enc1 1 3 (some ⟨gf, 0, none⟩) wk s.1.b, RowP enc4 4 39 s.2.1 s.2.2 s.1.l]) (fun s => Run ns ls cs wk s.1 ∧ Going ns ls cs wk s.1) (fun s => pot ns s.1) (⟨[], List.replicate wk 0, 0⟩, none, 0) ⟨Run.start, Going.start⟩ ⟨rfl, rfl, rfl, rfl, rfl, rfl, trivial⟩ (by repeat first | exact sLn _ | apply sLc | apply sLd) ?_
  rintro ⟨st, sa, sc⟩ ⟨hR, hG⟩
  dsimp only at hR hG ⊢
  refine cd_seq ?_
  refine cd_seq ?_
  refine cd_region ?_
  refine at_pure (pv_move rfl) rfl ?_
  refine at_pure (pv_len Try.underlying23 rfl) rfl ?_
  refine at_pure (pv_field0 fa_28_0 rfl (r := 0) rfl) rfl ?_
  refine at_pure (by exact pv_load ld_25 rfl (box_cell .z .z)) rfl ?_
  refine at_pure (pv_len Try.underlying25 rfl) rfl ?_
  refine at_pure (pv_lss rfl rfl) rfl ?_
  refine at_nil ?_
  refine ex_go ?_
  refine cd_if rfl (fun hlt => ?_) (fun hlt => ?_)
  · have hlen : st.l.length < ns.length := by simpa using hlt
    refine cd_skip ?_
    refine ex_go ?_
    refine cd_block ?_
    refine cd_seq ?_
    refine cd_region ?_
    refine at_pure (by exact pv_loads_box ag_28 rfl .z (.take (.take .done))) rfl ?_
    refine at_pure (pv_move rfl) rfl ?_
    refine at_pure (pv_move rfl) rfl ?_
    refine at_pure (pv_move rfl) rfl ?_
    refine at_does (does_val cal39 rfl rfl rfl (fun w hs => next_ref a b ca cb ns ls z0.1 z0.2 (orderS ns ls) sa sc st.l st.t w (hn.at' hs) (hl.at' hs) (hs.rows len1 (by decide) (.s .z)) (hs.rows len4 (by decide) (.s (.s (.s .z)))))) rfl (fun _ => ?_)
    refine at_pure (pv_move rfl) rfl ?_
    refine at_pure (pv_move rfl) rfl ?_
    refine at_does (does_val (v := .int .i64 (freeI st.b st.t)) cal40 rfl rfl rfl (fun w hs => by have h9 := free_ref (some ⟨gf, 0, none⟩) wk st.b st.t w (hs.rows len1 (by decide) (.s (.s .z))); rw [hR.blen] at h9; exact h9)) rfl (fun _ => ?_)
    refine at_pure (pv_assign rfl) rfl ?_
    refine at_pure (pv_assign rfl) rfl ?_
    refine at_nil ?_
    refine ex_go ?_
    refine cd_seq ?_
    refine cd_seq ?_
    refine cd_region ?_
    refine at_pure (pv_move rfl) rfl ?_
    refine at_pure (pv_eql rfl rfl) rfl ?_
    refine at_pure (pv_move rfl) rfl ?_
    refine at_split 44 rfl (fun hb2 => ?_) (fun hb2 => ?_)
    · skip
      refine at_skip rfl rfl hb2 rfl ?_
      refine at_skip rfl rfl hb2 rfl ?_
      refine at_pure (pv_pick_t rfl hb2 rfl) rfl ?_
      refine at_nil ?_
      refine ex_go ?_
      refine cd_then rfl rfl ?_
      refine cd_seq ?_
      have het := step_time (ns := ns) (cs := cs) (st := st) (ls := ls) (os := orderS ns ls) (by simp only [decide_eq_true_eq, beq_iff_eq] at *; omega)
      refine cd_region ?_
      refine at_pure (pv_move rfl) rfl ?_
      refine at_pure (pv_move rfl) rfl ?_
      refine at_does (does_val cal41 rfl rfl rfl (fun w hs => later_ref sa sc st.l st.t w (hs.rows len4 (by decide) (.s (.s (.s .z)))))) rfl (fun _ => ?_)
      refine at_pure (pv_assign rfl) rfl ?_
      refine at_nil ?_
      refine ex_go ?_
      refine cd_exit ?_
      refine ex_then_exit (ex_in ?_)
      have hst := hR.step hg hpo.2.2.2.2 (by omega) hlen
      first | exact ex_meet ((compStep ns ls cs (orderS ns ls) st), sa, sc) ⟨⟨hst.1, hG.step hlen hst.2⟩, hst.2⟩ ⟨rfl, rfl, rfl, rfl, by dsimp only; rw [het]; rfl, by dsimp only; rw [het]; rfl, trivial⟩ (by dsimp only; rw [het]; repeat first | exact sLn _ | apply sLc | apply sLd) | exact ex_meet ((compStep ns ls cs (orderS ns ls) st), a9, c9) ⟨⟨hst.1, hG.step hlen hst.2⟩, hst.2⟩ ⟨rfl, rfl, rfl, rfl, by dsimp only; rw [hes]; rfl, by dsimp only; rw [hes]; rfl, trivial⟩ (by dsimp only; rw [hes]; repeat first | exact sLn _ | apply sLc | apply sLd)
    · skip
      refine at_pure_g rfl rfl hb2 (pv_move rfl) rfl ?_
      refine at_pure_g rfl rfl hb2 (pv_lss rfl rfl) rfl ?_
      refine at_pure (pv_pick_f rfl hb2 rfl) rfl ?_
      refine at_nil ?_
      refine ex_go ?_
      refine cd_if rfl (fun hb3 => ?_) (fun hb3 => ?_)
      · skip
        refine cd_seq ?_
        have het := step_time (ns := ns) (cs := cs) (st := st) (ls := ls) (os := orderS ns ls) (by simp only [decide_eq_true_eq, beq_iff_eq] at *; omega)
        refine cd_region ?_
        refine at_pure (pv_move rfl) rfl ?_
        refine at_pure (pv_move rfl) rfl ?_
        refine at_does (does_val cal41 rfl rfl rfl (fun w hs => later_ref sa sc st.l st.t w (hs.rows len4 (by decide) (.s (.s (.s .z)))))) rfl (fun _ => ?_)
        refine at_pure (pv_assign rfl) rfl ?_
        refine at_nil ?_
        refine ex_go ?_
        refine cd_exit ?_
        refine ex_then_exit (ex_in ?_)
        have hst := hR.step hg hpo.2.2.2.2 (by omega) hlen
        first | exact ex_meet ((compStep ns ls cs (orderS ns ls) st), sa, sc) ⟨⟨hst.1, hG.step hlen hst.2⟩, hst.2⟩ ⟨rfl, rfl, rfl, rfl, by dsimp only; rw [het]; rfl, by dsimp only; rw [het]; rfl, trivial⟩ (by dsimp only; rw [het]; repeat first | exact sLn _ | apply sLc | apply sLd) | exact ex_meet ((compStep ns ls cs (orderS ns ls) st), a9, c9) ⟨⟨hst.1, hG.step hlen hst.2⟩, hst.2⟩ ⟨rfl, rfl, rfl, rfl, by dsimp only; rw [hes]; rfl, by dsimp only; rw [hes]; rfl, trivial⟩ (by dsimp only; rw [hes]; repeat first | exact sLn _ | apply sLc | apply sLd)
      · skip
        refine cd_skip ?_
        refine ex_go ?_
        refine cd_seq ?_
        have hne : (nextI ls (orderS ns ls) st.l st.t) ≠ 0 := beq_eq_false_iff_ne.1 (by assumption)
        have hff : 0 ≤ (freeI st.b st.t) := by simp only [decide_eq_false_iff_not] at *; omega
        obtain ⟨x, hx1, hx2, hx3, hx4⟩ := ((next_of (ns := ns) (ls := ls) (l := st.l) (t := st.t) (ord_pos hg)).resolve_left (fun e => hne e.2)).2
        have hxi : x ∈ ids ns := (good_order ls hg.nd).1.sub x (List.mem_of_getElem? hx1)
        rw [← hx2] at hxi hx3
        have hpl := place_in hxi
        have hat := at1_get (xs := cs) (k := (placeI ns (nextI ls (orderS ns ls) st.l st.t)).toNat) (by omega)
        have hab := at1_bound (k := (placeI ns (nextI ls (orderS ns ls) st.l st.t)).toNat) hpo.2.2.2.2 (by omega)
        have htm := hR.time
        have hfr := fIx_range (p := fun z : Int => decide (z ≤ st.t)) st.b 0
        have hfl : (freeI st.b st.t) < st.b.length := by unfold freeI at hff ⊢; omega
        have hbl := hR.blen
        have haf := at1_get (xs := st.b) (k := (freeI st.b st.t).toNat) (by omega)
        have hes := step_slot (ns := ns) (cs := cs) hx3 hff
        refine cd_region ?_
        refine at_pure (pv_move rfl) rfl ?_
        refine at_pure (pv_move rfl) rfl ?_
        refine at_pure (pv_move rfl) rfl ?_
        refine at_pure (pv_move rfl) rfl ?_
        refine at_pure (pv_move rfl) rfl ?_
        refine at_pure (by exact pv_loads_box ag_28 rfl .z (.take (.take .done))) rfl ?_
        refine at_pure (pv_move rfl) rfl ?_
        refine at_does (does_val cal42 rfl rfl rfl (fun w hs => place_25 a b ca cb ns ls _ w (hn.at' hs) (hl.at' hs))) rfl (fun _ => ?_)
        refine at_pure (pv_ix Try.underlying22 cz_3 rfl rfl (by first | omega | (simp only [decide_eq_true_eq, decide_eq_false_iff_not] at *; omega)) hc.real (k := (placeI ns (nextI ls (orderS ns ls) st.l st.t)).toNat) (by omega)) rfl ?_
        refine at_pure (pv_elem0 ld_3 rfl (hc.get hat .z)) rfl ?_
        refine at_pure (by first | exact pv_add_n rfl rfl (by unfold In64; omega) | exact pv_add rfl rfl) rfl ?_
        refine at_pure (pv_build rfl (bu_39_0_1_2_3 _ _ _ _)) rfl ?_
        refine at_does (does_alloc ze_39 .agg (fun _ => (.cons (.cons (.cons (.cons .nil)))))) rfl (fun gs9 => ?_)
        refine at_turns (by exact turns_store sz_39 rfl rfl .agg rfl rfl (.s (.s (.s (.s .z)))) (.rep (.rep (.rep (.rep .done)))) (.s (.s (.s (.s .z))))) ?_
        refine at_nil ?_
        refine ex_go ?_
        refine cd_draw 12 [Box g1 [.slice a ns.length ca, .slice b ls.length cb] 28, Box gs9 (enc4 ((nextI ls (orderS ns ls) st.l st.t), (freeI st.b st.t), st.t, (st.t + at1 cs (placeI ns (nextI ls (orderS ns ls) st.l st.t)).toNat))) 39] follows ?_
        refine dr_take 0 rfl (by kernel_rfl) (by repeat first | exact sLn _ | apply sLc | apply sLd) (pv_move rfl) rfl ?_
        refine dr_take 1 rfl (by kernel_rfl) (by repeat first | exact sLn _ | apply sLc | apply sLd) (pv_move rfl) rfl ?_
        refine dr_take 2 rfl (by kernel_rfl) (by repeat first | exact sLn _ | apply sLc | apply sLd) (pv_move rfl) rfl ?_
        refine dr_take 3 rfl (by kernel_rfl) (by repeat first | exact sLn _ | apply sLc | apply sLd) (by exact pv_loads_box ag_39 rfl (.s .z) (.take (.take (.take (.take .done))))) rfl ?_
        refine dr_take 6 rfl (by kernel_rfl) (by repeat first | exact sLn _ | apply sLc | apply sLd) (pv_field0 fa_39_3 rfl (r := 3) rfl) rfl ?_
        refine dr_take 7 rfl (by kernel_rfl) (by repeat first | exact sLn _ | apply sLc | apply sLd) (by exact pv_load ld_3 rfl (box_cell (.s .z) (.s (.s (.s .z))))) rfl ?_
        refine dr_one 4 (by kernel_rfl) rfl ?_
        refine at_does (does_list (by rfl) (by exact (bs_23_1_0 _ _ _ _)) (by exact (fun _ => (.cons (.cons (.cons (.cons (.cons .nil)))))))) rfl (fun g4 => ?_)
        refine at_nil (dr_next (fun _ => (by repeat first | exact sLn _ | apply sLc | apply sLd)) ?_)
        refine dr_one 5 (by kernel_rfl) rfl ?_
        refine at_hands (does_app (ys := [((nextI ls (orderS ns ls) st.l st.t), (freeI st.b st.t), st.t, (st.t + at1 cs (placeI ns (nextI ls (orderS ns ls) st.l st.t)).toNat))]) ⟨len4, by decide, one4⟩ Try.underlying23 ap_39 rfl rfl rfl (.s (.s (.s .z))) (fun w hs => hs.box1 (enc := enc4) (z := ((nextI ls (orderS ns ls) st.l st.t), (freeI st.b st.t), st.t, (st.t + at1 cs (placeI ns (nextI ls (orderS ns ls) st.l st.t)).toNat))) (.s (.s (.s (.s (.s .z)))))) (by simp only [List.length_singleton]; omega) (by simp) (fun _ _ => (.s (.s (.s .z))))) rfl (fun a9 c9 hr5 hc5 => ?_)
        refine at_nil (dr_next (fun _ => (by repeat first | exact sLn _ | apply sLc | apply sLd)) ?_)
        refine dr_take 8 rfl (by kernel_rfl) (by repeat first | exact sLn _ | apply sLc | apply sLd) (pv_assign rfl) rfl ?_
        refine dr_take 9 rfl (by kernel_rfl) (by repeat first | exact sLn _ | apply sLc | apply sLd) (pv_ix Try.underlying22 cz_3 rfl rfl (by first | omega | (simp only [decide_eq_true_eq, decide_eq_false_iff_not] at *; omega)) (.inr rfl) (k := (freeI st.b st.t).toNat) (by omega)) rfl ?_
        refine dr_one 10 (by kernel_rfl) rfl ?_
        refine at_turns (by exact turns_put (z' := (st.t + at1 cs (placeI ns (nextI ls (orderS ns ls) st.l st.t)).toNat)) (k := (freeI st.b st.t).toNat) (q := 0) len1 sz_3 rfl rfl rfl (.one rfl) rfl rfl (.s (.s .z)) haf rfl (Nat.le_of_ble_eq_true rfl) (.s (.s .z))) ?_
        refine at_nil (dr_next (fun _ => (by repeat first | exact sLn _ | apply sLc | apply sLd)) ?_)
        refine dr_done (by kernel_rfl) ?_
        refine ex_in_normal ?_
        have hst := hR.step hg hpo.2.2.2.2 (by omega) hlen
        first | exact ex_meet ((compStep ns ls cs (orderS ns ls) st), sa, sc) ⟨⟨hst.1, hG.step hlen hst.2⟩, hst.2⟩ ⟨rfl, rfl, rfl, rfl, by dsimp only; rw [het]; rfl, by dsimp only; rw [het]; rfl, trivial⟩ (by dsimp only; rw [het]; repeat first | exact sLn _ | apply sLc | apply sLd) | exact ex_meet ((compStep ns ls cs (orderS ns ls) st), a9, c9) ⟨⟨hst.1, hG.step hlen hst.2⟩, hst.2⟩ ⟨rfl, rfl, rfl, rfl, by dsimp only; rw [hes]; rfl, by dsimp only; rw [hes]; rfl, trivial⟩ (by dsimp only; rw [hes]; repeat first | exact sLn _ | apply sLc | apply sLd)
  · skip
    refine cd_exit ?_
    refine ex_then_exit (ex_then_exit (ex_in (ex_go ?_)))
    refine cd_seq ?_
    refine cd_region ?_
    refine at_pure (pv_move rfl) rfl ?_
    refine at_pure (pv_assign rfl) rfl ?_
    refine at_pure (pv_assign rfl) rfl ?_
    refine at_nil ?_
    refine ex_go ?_
    refine cd_ret ?_
    exact end_ret2 rfl rfl rfl (fun w hs => by have h9 := compO_yes hp; have h8 := hG.stop (by simpa using hlt); rw [h8] at h9; exact Gives.mk' (sa, sc) (by rw [h9.1, h9.2]) (by rw [h9.1]; repeat first | exact sLn _ | apply sLc | apply sLd) hs)

theorem compileR_full (a b : Option Addr) (ca cb : Nat) (ns ls : List Q4) (c : Option Addr) (cc : Nat) (cs : List Int) (wk : Int) (w : World) (hn : Sl [] enc4 4 w a ca ns) (hl : Sl [] enc4 4 w b cb ls) (hc : Sl [] enc1 1 w c cc cs) :
    Calls Try.prog 14 [.agg #[.slice a ns.length ca, .slice b ls.length cb], .slice c cs.length cc, .int .i64 wk].toArray w (Gives (fun z : Option Addr × Nat => .tuple #[.slice z.1 (compO ns ls cs wk).length z.2, .int .i64 (compE ns ls cs wk)]) (fun z => [RowP enc4 4 39 z.1 z.2 (compO ns ls cs wk)]) w) := by
  cases hp : problemS ns ls cs wk
  · exact compileR_no a b ca cb ns ls c cc cs wk w hn hl hc hp
  · have hpo := prob_of hp
    obtain ⟨m, rfl⟩ := Int.eq_ofNat_of_zero_le (show 0 ≤ wk by omega)
    exact compileR_yes a b ca cb ns ls c cc cs m w hn hl hc hp

end Go.Proofs.Ytkejdfnpbkdllaa
