/- The schedule: Critical, Bound; who is ready. -/
import Derived.Test.YtkejdfnpbkdllaaF25
import Derived.Test.YtkejdfnpbkdllaaSch3
set_option linter.unusedVariables false
set_option linter.unusedSimpArgs false
set_option maxRecDepth 20000
namespace Go.Proofs.Ytkejdfnpbkdllaa
open Go Go.RowKit Go.Proofs.YtkejdfnpbkdllaaV
theorem block_keep {w w' : World} {g : Nat} {o : Obj} (h : w.heap[g]? = some o) (k : Keep [] w w') : w'.heap[g]? = some o := (k.block g (Array.getElem?_eq_some_iff.1 h).1 (by simp)).trans h
theorem prob_one {ns ls : List Q4} {cs : List Int} {wk : Int} (h : problemS ns ls cs wk = true) : problemS ns ls cs 1 = true := by
  unfold problemS at h ⊢
  simp only [Bool.and_eq_true] at h ⊢
  exact ⟨⟨⟨⟨h.1.1.1.1, h.1.1.1.2⟩, by decide⟩, by decide⟩, h.2⟩
theorem bound_no {ns ls : List Q4} {cs : List Int} {wk : Int} (h : problemS ns ls cs wk = false) : boundS ns ls cs wk = 0 := by unfold boundS; rw [h]; rfl
theorem crit_no {ns ls : List Q4} {cs : List Int} (h : problemS ns ls cs 1 = false) : critS ns ls cs = 0 := by unfold critS; rw [h]; rfl

theorem crit_full_no (a b : Option Addr) (ca cb : Nat) (ns ls : List Q4) (c : Option Addr) (cc : Nat) (cs : List Int) (w : World) (hn : Sl [] enc4 4 w a ca ns) (hl : Sl [] enc4 4 w b cb ls) (hc : Sl [] enc1 1 w c cc cs) (hp : problemS ns ls cs 1 = false) : Calls Try.prog 19 [.agg #[.slice a ns.length ca, .slice b ls.length cb], .slice c cs.length cc].toArray w (Val (.int .i64 (critS ns ls cs)) w) := by
  refine calls_body (n := 17) Try.func19 rfl rfl rfl (St.init _ []) ?_
  refine cd_seq ?_
  refine cd_region ?_
  refine at_does (does_box rfl .agg (fun _ => .nil)) rfl (fun g1 => ?_)
  refine at_pure (pv_assign rfl) rfl ?_
  refine at_nil ?_
  refine ex_go ?_
  refine cd_seq ?_
  refine cd_region ?_
  refine at_pure (by exact pv_loads_box ag_28 rfl .z (.take (.take .done))) rfl ?_
  refine at_pure (pv_move rfl) rfl ?_
  refine at_does (does_val cal43 rfl rfl rfl (fun w hs => read_no a b ca cb ns ls c cc cs 1 w (hn.at' hs) (hl.at' hs) (hc.at' hs) hp)) rfl (fun _ => ?_)
  refine at_pure (pv_move rfl) rfl ?_
  refine at_pure (pv_extract rfl rfl) rfl ?_
  refine at_pure (pv_extract rfl rfl) rfl ?_
  refine at_pure (pv_assign rfl) rfl ?_
  refine at_pure (pv_assign rfl) rfl ?_
  refine at_nil ?_
  refine ex_go ?_
  refine cd_seq ?_
  refine cd_seq ?_
  refine cd_region ?_
  refine at_pure (pv_move rfl) rfl ?_
  refine at_pure (pv_not rfl) rfl ?_
  refine at_nil ?_
  refine ex_go ?_
  refine cd_then rfl rfl ?_
  refine cd_seq ?_
  refine cd_region ?_
  refine at_pure (pv_assign rfl) rfl ?_
  refine at_nil ?_
  refine ex_go ?_
  refine cd_ret ?_
  refine ex_then_ret ?_
  exact end_ret1 rfl rfl (fun w hs => ⟨by clear hs; refine congrArg (fun b => Ending.returned (.int .i64 b)) ?_; exact (crit_no hp).symm, hs.keep⟩)

theorem crit_full_yes (a b : Option Addr) (ca cb : Nat) (ns ls : List Q4) (c : Option Addr) (cc : Nat) (cs : List Int) (w : World) (hn : Sl [] enc4 4 w a ca ns) (hl : Sl [] enc4 4 w b cb ls) (hc : Sl [] enc1 1 w c cc cs) (hp : problemS ns ls cs 1 = true) : Calls Try.prog 19 [.agg #[.slice a ns.length ca, .slice b ls.length cb], .slice c cs.length cc].toArray w (Val (.int .i64 (critS ns ls cs)) w) := by
  refine calls_body (n := 17) Try.func19 rfl rfl rfl (St.init _ []) ?_
  refine cd_seq ?_
  refine cd_region ?_
  refine at_does (does_box rfl .agg (fun _ => .nil)) rfl (fun g1 => ?_)
  refine at_pure (pv_assign rfl) rfl ?_
  refine at_nil ?_
  refine ex_go ?_
  refine cd_seq ?_
  refine cd_region ?_
  refine at_pure (by exact pv_loads_box ag_28 rfl .z (.take (.take .done))) rfl ?_
  refine at_pure (pv_move rfl) rfl ?_
  refine at_mades (does_makes (X := PZ) (val := fun z => .tuple #[.pointer (some ⟨z.gp, 0, none⟩), .bool true]) (Δ := fun z => [MapP fI z.gm z.pm, RowP encH 1 22 (some ⟨z.gb, 0, none⟩) ns.length z.hds, Box z.gp [.slice a ns.length ca, .slice b ls.length cb, .slice c cs.length cc, .map (some z.gm), .slice z.oa (placesO ns ls).length z.oc, .slice (some ⟨z.gb, 0, none⟩) ns.length ns.length] 90, RowP enc1 1 3 z.oa z.oc (placesO ns ls), RowsP enc1 1 3 z.hds]) (good := PbOk ns ls) cal43 rfl rfl rfl (fun w hs => by have h9 := read_yes a b ca cb ns ls c cc cs 1 w (hn.at' hs) (hl.at' hs) (hc.at' hs) hp; exact h9) (fun _ => (.cons .nil))) rfl (fun p hok => ?_)
  refine at_pure (pv_move rfl) rfl ?_
  refine at_pure (pv_extract rfl rfl) rfl ?_
  refine at_pure (pv_extract rfl rfl) rfl ?_
  refine at_pure (pv_assign rfl) rfl ?_
  refine at_pure (pv_assign rfl) rfl ?_
  refine at_nil ?_
  refine ex_go ?_
  refine cd_seq ?_
  refine cd_seq ?_
  refine cd_region ?_
  refine at_pure (pv_move rfl) rfl ?_
  refine at_pure (pv_not rfl) rfl ?_
  refine at_nil ?_
  refine ex_go ?_
  refine cd_else rfl rfl ?_
  refine cd_skip ?_
  refine ex_go ?_
  refine cd_seq ?_
  refine cd_region ?_
  refine at_pure (pv_move rfl) rfl ?_
  refine at_does (does_val cal51 rfl rfl rfl (fun w hs => critical_go a b ca cb ns ls c cc cs p w (hn.at' hs) (hs.box (show Nth _ 3 _ from (.s (.s (.s .z)))).get) (hs.rows len1 (by decide) (.s (.s (.s (.s .z))))) (hs.rows lenH (by decide) (.s (.s .z))) (fun h hh => hs.rowsAt len1 (by decide) (.s (.s (.s (.s (.s .z))))) hh) hok (hc.at' hs) hp)) rfl (fun _ => ?_)
  refine at_pure (pv_assign rfl) rfl ?_
  refine at_nil ?_
  refine ex_go ?_
  refine cd_ret ?_
  exact end_ret1 rfl rfl (fun w hs => Val.mk hs)

theorem crit_full (a b : Option Addr) (ca cb : Nat) (ns ls : List Q4) (c : Option Addr) (cc : Nat) (cs : List Int) (w : World) (hn : Sl [] enc4 4 w a ca ns) (hl : Sl [] enc4 4 w b cb ls) (hc : Sl [] enc1 1 w c cc cs) : Calls Try.prog 19 [.agg #[.slice a ns.length ca, .slice b ls.length cb], .slice c cs.length cc].toArray w (Val (.int .i64 (critS ns ls cs)) w) := by
  cases hp : problemS ns ls cs 1
  · exact crit_full_no a b ca cb ns ls c cc cs w hn hl hc hp
  · exact crit_full_yes a b ca cb ns ls c cc cs w hn hl hc hp

theorem bound_full_no (a b : Option Addr) (ca cb : Nat) (ns ls : List Q4) (c : Option Addr) (cc : Nat) (cs : List Int) (wk : Int) (w : World) (hn : Sl [] enc4 4 w a ca ns) (hl : Sl [] enc4 4 w b cb ls) (hc : Sl [] enc1 1 w c cc cs) (hp : problemS ns ls cs wk = false) : Calls Try.prog 20 [.agg #[.slice a ns.length ca, .slice b ls.length cb], .slice c cs.length cc, .int .i64 wk].toArray w (Val (.int .i64 (boundS ns ls cs wk)) w) := by
  refine calls_body (n := 40) Try.func20 rfl rfl rfl (St.init _ []) ?_
  refine cd_seq ?_
  refine cd_region ?_
  refine at_does (does_box rfl .agg (fun _ => .nil)) rfl (fun g1 => ?_)
  refine at_pure (pv_assign rfl) rfl ?_
  refine at_nil ?_
  refine ex_go ?_
  refine cd_seq ?_
  refine cd_region ?_
  refine at_pure (by exact pv_loads_box ag_28 rfl .z (.take (.take .done))) rfl ?_
  refine at_pure (pv_move rfl) rfl ?_
  refine at_pure (pv_move rfl) rfl ?_
  refine at_does (does_val cal43 rfl rfl rfl (fun w hs => read_no a b ca cb ns ls c cc cs wk w (hn.at' hs) (hl.at' hs) (hc.at' hs) hp)) rfl (fun _ => ?_)
  refine at_pure (pv_move rfl) rfl ?_
  refine at_pure (pv_extract rfl rfl) rfl ?_
  refine at_pure (pv_extract rfl rfl) rfl ?_
  refine at_pure (pv_assign rfl) rfl ?_
  refine at_pure (pv_assign rfl) rfl ?_
  refine at_nil ?_
  refine ex_go ?_
  refine cd_seq ?_
  refine cd_seq ?_
  refine cd_region ?_
  refine at_pure (pv_move rfl) rfl ?_
  refine at_pure (pv_not rfl) rfl ?_
  refine at_nil ?_
  refine ex_go ?_
  refine cd_then rfl rfl ?_
  refine cd_seq ?_
  refine cd_region ?_
  refine at_pure (pv_assign rfl) rfl ?_
  refine at_nil ?_
  refine ex_go ?_
  refine cd_ret ?_
  refine ex_then_ret ?_
  exact end_ret1 rfl rfl (fun w hs => ⟨by clear hs; refine congrArg (fun b => Ending.returned (.int .i64 b)) ?_; exact (bound_no hp).symm, hs.keep⟩)

theorem bound_full_yes (a b : Option Addr) (ca cb : Nat) (ns ls : List Q4) (c : Option Addr) (cc : Nat) (cs : List Int) (wk : Int) (w : World) (hn : Sl [] enc4 4 w a ca ns) (hl : Sl [] enc4 4 w b cb ls) (hc : Sl [] enc1 1 w c cc cs) (hp : problemS ns ls cs wk = true) : Calls Try.prog 20 [.agg #[.slice a ns.length ca, .slice b ls.length cb], .slice c cs.length cc, .int .i64 wk].toArray w (Val (.int .i64 (boundS ns ls cs wk)) w) := by
  have hpo := prob_of hp
  have hvf := valid_facts hpo.1
  refine calls_body (n := 40) Try.func20 rfl rfl rfl (St.init _ []) ?_
  refine cd_seq ?_
  refine cd_region ?_
  refine at_does (does_box rfl .agg (fun _ => .nil)) rfl (fun g1 => ?_)
  refine at_pure (pv_assign rfl) rfl ?_
  refine at_nil ?_
  refine ex_go ?_
  refine cd_seq ?_
  refine cd_region ?_
  refine at_pure (by exact pv_loads_box ag_28 rfl .z (.take (.take .done))) rfl ?_
  refine at_pure (pv_move rfl) rfl ?_
  refine at_pure (pv_move rfl) rfl ?_
  refine at_mades (does_makes (X := PZ) (val := fun z => .tuple #[.pointer (some ⟨z.gp, 0, none⟩), .bool true]) (Δ := fun z => [MapP fI z.gm z.pm, RowP encH 1 22 (some ⟨z.gb, 0, none⟩) ns.length z.hds, Box z.gp [.slice a ns.length ca, .slice b ls.length cb, .slice c cs.length cc, .map (some z.gm), .slice z.oa (placesO ns ls).length z.oc, .slice (some ⟨z.gb, 0, none⟩) ns.length ns.length] 90, RowP enc1 1 3 z.oa z.oc (placesO ns ls), RowsP enc1 1 3 z.hds]) (good := PbOk ns ls) cal43 rfl rfl rfl (fun w hs => by have h9 := read_yes a b ca cb ns ls c cc cs wk w (hn.at' hs) (hl.at' hs) (hc.at' hs) hp; exact h9) (fun _ => (.cons .nil))) rfl (fun p hok => ?_)
  refine at_pure (pv_move rfl) rfl ?_
  refine at_pure (pv_extract rfl rfl) rfl ?_
  refine at_pure (pv_extract rfl rfl) rfl ?_
  refine at_pure (pv_assign rfl) rfl ?_
  refine at_pure (pv_assign rfl) rfl ?_
  refine at_nil ?_
  refine ex_go ?_
  refine cd_seq ?_
  refine cd_seq ?_
  refine cd_region ?_
  refine at_pure (pv_move rfl) rfl ?_
  refine at_pure (pv_not rfl) rfl ?_
  refine at_nil ?_
  refine ex_go ?_
  refine cd_else rfl rfl ?_
  refine cd_skip ?_
  refine ex_go ?_
  refine cd_seq ?_
  refine cd_region ?_
  refine at_pure (pv_assign rfl) rfl ?_
  refine at_nil ?_
  refine ex_go ?_
  refine cd_seq ?_
  refine cd_seq ?_
  refine cd_region ?_
  refine at_pure (pv_move rfl) rfl ?_
  refine at_pure (pv_len Try.underlying22 rfl) rfl ?_
  refine at_pure (pv_move rfl) rfl ?_
  refine at_nil ?_
  refine ex_go ?_
  refine cd_block ?_
  refine cd_loop (σ := Nat × Int) (fun s => [(1, .slice c cs.length cc), (2, .int .i64 wk), (7, .pointer (some ⟨p.gp, 0, none⟩)), (9, .int .i64 s.2), (21, .slice c cs.length cc), (22, .int .i64 cs.length), (23, .int .i64 (s.1 : Int))]) (fun s => [Box g1 [.slice a ns.length ca, .slice b ls.length cb] 28, MapP fI p.gm p.pm, RowP encH 1 22 (some ⟨p.gb, 0, none⟩) ns.length p.hds, Box p.gp [.slice a ns.length ca, .slice b ls.length cb, .slice c cs.length cc, .map (some p.gm), .slice p.oa (placesO ns ls).length p.oc, .slice (some ⟨p.gb, 0, none⟩) ns.length ns.length] 90, RowP enc1 1 3 p.oa p.oc (placesO ns ls), RowsP enc1 1 3 p.hds]) (fun s => s.1 ≤ cs.length ∧ sumS cs = (cs.drop s.1).foldl (· + ·) s.2 ∧ 0 ≤ s.2 ∧ s.2 ≤ (s.1 : Int) * 1099511627776) (fun s => cs.length - s.1) (0, 0) ⟨Nat.zero_le _, rfl, by simp, by simp⟩ ⟨rfl, rfl, rfl, rfl, rfl, rfl, rfl, trivial⟩ (by repeat first | exact sLn _ | apply sLc | apply sLd) ?_
  rintro ⟨k, o⟩ ⟨hk, hq, ho0, ho1⟩
  dsimp only at hk hq ho0 ho1 ⊢
  refine cd_seq ?_
  refine cd_region ?_
  refine at_pure (pv_lss rfl rfl) rfl ?_
  refine at_nil ?_
  refine ex_go ?_
  refine cd_seq ?_
  refine cd_if rfl (fun hlt => ?_) (fun hlt => ?_)
  · skip
    refine cd_skip ?_
    refine ex_go ?_
    refine cd_seq ?_
    refine cd_block ?_
    refine cd_seq ?_
    have hkl : k < cs.length := by simpa using hlt
    obtain ⟨z, hz⟩ := get_of hkl
    have hzb := hpo.2.2.2.2 z (List.mem_of_getElem? hz)
    have hc64 : cs.length ≤ 64 := by have := hvf.1; omega
    refine cd_region ?_
    refine at_pure (pv_ix Try.underlying22 cz_3 rfl rfl (by first | omega | (simp only [decide_eq_true_eq, decide_eq_false_iff_not] at *; omega)) hc.real (k := k) (by omega)) rfl ?_
    refine at_pure (pv_elem0 ld_3 rfl (hc.get hz .z)) rfl ?_
    refine at_pure (pv_assign rfl) rfl ?_
    refine at_nil ?_
    refine ex_go ?_
    refine cd_region ?_
    refine at_pure (pv_move rfl) rfl ?_
    refine at_pure (pv_move rfl) rfl ?_
    refine at_pure (by first | exact pv_add_n rfl rfl (by unfold In64; omega) | exact pv_add rfl rfl) rfl ?_
    refine at_pure (pv_assign rfl) rfl ?_
    refine at_nil ?_
    refine ex_in_normal (ex_go ?_)
    refine cd_region ?_
    refine at_pure (by first | exact pv_add_n rfl rfl (by unfold In64; omega) | exact pv_add rfl rfl) rfl ?_
    refine at_pure (pv_move rfl) rfl ?_
    refine at_nil ?_
    exact ex_meet (k + 1, o + z) ⟨⟨by dsimp only; omega, fold_step hq hz rfl, by dsimp only; omega, by dsimp only; omega⟩, by dsimp only; omega⟩ ⟨rfl, rfl, rfl, rfl, rfl, rfl, rfl, trivial⟩ (by repeat first | exact sLn _ | apply sLc | apply sLd)
  · skip
    refine cd_exit ?_
    refine ex_then_exit (ex_then_exit (ex_in (ex_go ?_)))
    refine cd_seq ?_
    have hc64 : cs.length ≤ 64 := by have := hvf.1; omega
    have hcb := critS_bound ns ls cs
    have hmb := mul_bound (x := wk - 1) (y := critS ns ls cs) (by omega) hcb
    have hsum : sumS cs = o := fold_end hq (by simp at hlt; omega)
    refine cd_region ?_
    refine at_pure (pv_move rfl) rfl ?_
    refine at_pure (pv_move rfl) rfl ?_
    refine at_pure (by first | exact pv_sub_n rfl rfl (by unfold In64; omega) | exact pv_sub rfl rfl) rfl ?_
    refine at_pure (pv_move rfl) rfl ?_
    refine at_does (does_val cal51 rfl rfl rfl (fun w hs => critical_go a b ca cb ns ls c cc cs p w (hn.at' hs) (hs.box (show Nth _ 3 _ from (.s (.s (.s .z)))).get) (hs.rows len1 (by decide) (.s (.s (.s (.s .z))))) (hs.rows lenH (by decide) (.s (.s .z))) (fun h hh => hs.rowsAt len1 (by decide) (.s (.s (.s (.s (.s .z))))) hh) hok (hc.at' hs) (prob_one hp))) rfl (fun _ => ?_)
    refine at_pure (by first | exact pv_mul_n rfl rfl (by unfold In64; omega) | exact pv_mul rfl rfl) rfl ?_
    refine at_pure (by first | exact pv_add_n rfl rfl (by unfold In64; omega) | exact pv_add rfl rfl) rfl ?_
    refine at_pure (pv_move rfl) rfl ?_
    refine at_pure (by first | exact pv_quo_n rfl rfl (by omega) | exact pv_quo rfl rfl (by first | decide | omega)) rfl ?_
    refine at_pure (pv_assign rfl) rfl ?_
    refine at_nil ?_
    refine ex_go ?_
    refine cd_ret ?_
    exact end_ret1 rfl rfl (fun w hs => ⟨by clear hs; refine congrArg (fun b => Ending.returned (.int .i64 b)) ?_; unfold boundS; rw [hp, hsum]; rfl, hs.keep⟩)

theorem bound_full (a b : Option Addr) (ca cb : Nat) (ns ls : List Q4) (c : Option Addr) (cc : Nat) (cs : List Int) (wk : Int) (w : World) (hn : Sl [] enc4 4 w a ca ns) (hl : Sl [] enc4 4 w b cb ls) (hc : Sl [] enc1 1 w c cc cs) : Calls Try.prog 20 [.agg #[.slice a ns.length ca, .slice b ls.length cb], .slice c cs.length cc, .int .i64 wk].toArray w (Val (.int .i64 (boundS ns ls cs wk)) w) := by
  cases hp : problemS ns ls cs wk
  · exact bound_full_no a b ca cb ns ls c cc cs wk w hn hl hc hp
  · exact bound_full_yes a b ca cb ns ls c cc cs wk w hn hl hc hp

def lateB (es : List Int) (t : Int) (k : Int) : Bool := decide (at1 es k.toNat < 0) || decide (t < at1 es k.toNat)

theorem late_go (p : PZ) (gl : Nat) (t : Int) (fa ea sa : Option Addr) (fl fc ec sl sc : Nat) (es : List Int) (gv : Nat) (k : Int) (w : World) (hvc : w.heap[gv]? = some (.cells ([.pointer (some ⟨gl, 0, none⟩)] : List Value).toArray 93 (0, 0))) (hpl : w.heap[gl]? = some (.cells ([.pointer (some ⟨p.gp, 0, none⟩), .int .i64 t, .slice fa fl fc, .slice ea es.length ec, .slice sa sl sc] : List Value).toArray 96 (0, 0))) (he : Sl [] enc1 1 w ea ec es) (hk : 0 ≤ k ∧ k < es.length) : Calls Try.prog 85 [.int .i64 k, Value.pointer (some ⟨gv, 0, none⟩)].toArray w (Val (.bool (lateB es t k)) w) := by
  refine calls_body (n := 26) Try.func85 rfl rfl rfl (St.init _ []) ?_
  refine cd_seq ?_
  refine cd_region ?_
  refine at_pure (pv_assign rfl) rfl ?_
  refine at_nil ?_
  refine ex_go ?_
  refine cd_seq ?_
  have hat := at1_get (xs := es) (k := k.toNat) (by omega)
  refine cd_draw' 22 follows ?_
  refine dr_take 0 rfl (by kernel_rfl) (.refl _) (pv_load ld_93 rfl (old_cell (cell_of_block hvc rfl) (by simp))) rfl ?_
  refine dr_take 1 rfl (by kernel_rfl) (.refl _) (pv_nilCheck rfl) rfl ?_
  refine dr_take 2 rfl (by kernel_rfl) (.refl _) (pv_field0 fa_96_3 rfl (r := 3) rfl) rfl ?_
  refine dr_take 3 rfl (by kernel_rfl) (.refl _) (pv_load ld_22 rfl (old_cell (cell_of_block hpl rfl) (by simp))) rfl ?_
  refine dr_take 4 rfl (by kernel_rfl) (.refl _) (pv_move rfl) rfl ?_
  refine dr_take 5 rfl (by kernel_rfl) (.refl _) (pv_ix Try.underlying22 cz_3 rfl rfl (by first | omega | (simp only [decide_eq_true_eq, decide_eq_false_iff_not] at *; omega)) he.real (k := k.toNat) (by omega)) rfl ?_
  refine dr_take 6 rfl (by kernel_rfl) (.refl _) (pv_elem0 ld_3 rfl (he.get hat .z)) rfl ?_
  refine dr_take 7 rfl (by kernel_rfl) (.refl _) (pv_lss rfl rfl) rfl ?_
  refine dr_take 8 rfl (by kernel_rfl) (.refl _) (pv_move rfl) rfl ?_
  refine dr_split 12 rfl (fun hb1 => ?_) (fun hb1 => ?_)
  · skip
    refine dr_skip 9 rfl rfl rfl hb1 (by kernel_rfl) (.refl _) rfl ?_
    refine dr_skip 10 rfl rfl rfl hb1 (by kernel_rfl) (.refl _) rfl ?_
    refine dr_skip 11 rfl rfl rfl hb1 (by kernel_rfl) (.refl _) rfl ?_
    refine dr_skip 12 rfl rfl rfl hb1 (by kernel_rfl) (.refl _) rfl ?_
    refine dr_skip 13 rfl rfl rfl hb1 (by kernel_rfl) (.refl _) rfl ?_
    refine dr_skip 14 rfl rfl rfl hb1 (by kernel_rfl) (.refl _) rfl ?_
    refine dr_skip 15 rfl rfl rfl hb1 (by kernel_rfl) (.refl _) rfl ?_
    refine dr_skip 16 rfl rfl rfl hb1 (by kernel_rfl) (.refl _) rfl ?_
    refine dr_skip 17 rfl rfl rfl hb1 (by kernel_rfl) (.refl _) rfl ?_
    refine dr_skip 18 rfl rfl rfl hb1 (by kernel_rfl) (.refl _) rfl ?_
    refine dr_skip 19 rfl rfl rfl hb1 (by kernel_rfl) (.refl _) rfl ?_
    refine dr_skip 20 rfl rfl rfl hb1 (by kernel_rfl) (.refl _) rfl ?_
    refine dr_take 21 rfl (by kernel_rfl) (.refl _) (pv_pick_t rfl hb1 rfl) rfl ?_
    refine dr_one 22 (by kernel_rfl) rfl ?_
    refine at_pure (pv_assign rfl) rfl ?_
    refine at_nil (dr_next (fun h => by cases h) ?_)
    refine dr_done (by kernel_rfl) ?_
    refine ex_go ?_
    refine cd_ret ?_
    exact end_ret1 rfl rfl (fun w hs => ⟨by clear hs; refine congrArg (fun b => Ending.returned (.bool b)) ?_; unfold lateB; simp only [Bool.true_or, Bool.false_or, *], hs.keep⟩)
  · skip
    refine dr_take_g 9 rfl rfl rfl hb1 (by kernel_rfl) (.refl _) (pv_load ld_93 rfl (old_cell (cell_of_block hvc rfl) (by simp))) rfl ?_
    refine dr_take_g 10 rfl rfl rfl hb1 (by kernel_rfl) (.refl _) (pv_nilCheck rfl) rfl ?_
    refine dr_take_g 11 rfl rfl rfl hb1 (by kernel_rfl) (.refl _) (pv_field0 fa_96_3 rfl (r := 3) rfl) rfl ?_
    refine dr_take_g 12 rfl rfl rfl hb1 (by kernel_rfl) (.refl _) (pv_load ld_22 rfl (old_cell (cell_of_block hpl rfl) (by simp))) rfl ?_
    refine dr_take_g 13 rfl rfl rfl hb1 (by kernel_rfl) (.refl _) (pv_move rfl) rfl ?_
    refine dr_take_g 14 rfl rfl rfl hb1 (by kernel_rfl) (.refl _) (pv_ix Try.underlying22 cz_3 rfl rfl (by first | omega | (simp only [decide_eq_true_eq, decide_eq_false_iff_not] at *; omega)) he.real (k := k.toNat) (by omega)) rfl ?_
    refine dr_take_g 15 rfl rfl rfl hb1 (by kernel_rfl) (.refl _) (pv_elem0 ld_3 rfl (he.get hat .z)) rfl ?_
    refine dr_take_g 16 rfl rfl rfl hb1 (by kernel_rfl) (.refl _) (pv_load ld_93 rfl (old_cell (cell_of_block hvc rfl) (by simp))) rfl ?_
    refine dr_take_g 17 rfl rfl rfl hb1 (by kernel_rfl) (.refl _) (pv_nilCheck rfl) rfl ?_
    refine dr_take_g 18 rfl rfl rfl hb1 (by kernel_rfl) (.refl _) (pv_field0 fa_96_1 rfl (r := 1) rfl) rfl ?_
    refine dr_take_g 19 rfl rfl rfl hb1 (by kernel_rfl) (.refl _) (pv_load ld_3 rfl (old_cell (cell_of_block hpl rfl) (by simp))) rfl ?_
    refine dr_take_g 20 rfl rfl rfl hb1 (by kernel_rfl) (.refl _) (pv_gtr rfl rfl) rfl ?_
    refine dr_take 21 rfl (by kernel_rfl) (.refl _) (pv_pick_f rfl hb1 rfl) rfl ?_
    refine dr_one 22 (by kernel_rfl) rfl ?_
    refine at_pure (pv_assign rfl) rfl ?_
    refine at_nil (dr_next (fun h => by cases h) ?_)
    refine dr_done (by kernel_rfl) ?_
    refine ex_go ?_
    refine cd_ret ?_
    exact end_ret1 rfl rfl (fun w hs => ⟨by clear hs; refine congrArg (fun b => Ending.returned (.bool b)) ?_; unfold lateB; simp only [Bool.true_or, Bool.false_or, *], hs.keep⟩)

theorem free1_go (p : PZ) (gl : Nat) (t : Int) (fa ea sa : Option Addr) (fl fc ec sl sc : Nat) (es : List Int) (gv : Nat) (x : Int) (w : World) (hvc : w.heap[gv]? = some (.cells ([.pointer (some ⟨gl, 0, none⟩)] : List Value).toArray 93 (0, 0))) (hpl : w.heap[gl]? = some (.cells ([.pointer (some ⟨p.gp, 0, none⟩), .int .i64 t, .slice fa fl fc, .slice ea es.length ec, .slice sa sl sc] : List Value).toArray 96 (0, 0))) (he : Sl [] enc1 1 w ea ec es) : Calls Try.prog 74 [.int .i64 x, Value.pointer (some ⟨gv, 0, none⟩)].toArray w (Val (.bool (decide (x ≤ t))) w) := by
  refine calls_body (n := 10) Try.func74 rfl rfl rfl (St.init _ []) ?_
  refine cd_seq ?_
  refine cd_region ?_
  refine at_pure (pv_assign rfl) rfl ?_
  refine at_nil ?_
  refine ex_go ?_
  refine cd_seq ?_
  refine cd_region ?_
  refine at_pure (pv_move rfl) rfl ?_
  refine at_pure (pv_load ld_93 rfl (old_cell (cell_of_block hvc rfl) (by simp))) rfl ?_
  refine at_pure (pv_nilCheck rfl) rfl ?_
  refine at_pure (pv_field0 fa_96_1 rfl (r := 1) rfl) rfl ?_
  refine at_pure (pv_load ld_3 rfl (old_cell (cell_of_block hpl rfl) (by simp))) rfl ?_
  refine at_pure (pv_leq rfl rfl) rfl ?_
  refine at_pure (pv_assign rfl) rfl ?_
  refine at_nil ?_
  refine ex_go ?_
  refine cd_ret ?_
  exact end_ret1 rfl rfl (fun w hs => Val.mk hs)

def readyK (es : List Int) (t : Int) (row : List Int) (k : Int) : Bool := decide (at1 es k.toNat < 0) && !row.any (lateB es t)

theorem ready_go (a b : Option Addr) (ca cb : Nat) (ns ls : List Q4) (c : Option Addr) (cc : Nat) (cs : List Int) (p : PZ) (gl : Nat) (t : Int) (fa ea sa : Option Addr) (fl fc ec sl sc : Nat) (es : List Int) (k : Int) (hh : Hd Int) (w : World) (hpx : w.heap[p.gp]? = some (.cells ([.slice a ns.length ca, .slice b ls.length cb, .slice c cs.length cc, .map (some p.gm), .slice p.oa (placesO ns ls).length p.oc, .slice (some ⟨p.gb, 0, none⟩) ns.length ns.length] : List Value).toArray 90 (0, 0))) (ho : Sl [] enc1 1 w p.oa p.oc (placesO ns ls)) (hbf : Sl [] encH 1 w (some ⟨p.gb, 0, none⟩) ns.length p.hds) (hrows : ∀ h ∈ p.hds, Sl [] enc1 1 w h.1 h.2.1 h.2.2) (hok : PbOk ns ls p) (hc : Sl [] enc1 1 w c cc cs) (hpl : w.heap[gl]? = some (.cells ([.pointer (some ⟨p.gp, 0, none⟩), .int .i64 t, .slice fa fl fc, .slice ea es.length ec, .slice sa sl sc] : List Value).toArray 96 (0, 0))) (he : Sl [] enc1 1 w ea ec es) (hk : 0 ≤ k ∧ k < ns.length) (hel : es.length = ns.length) (hhk : p.hds[k.toNat]? = some hh) (hrow : ∀ z ∈ hh.2.2, 0 ≤ z ∧ z < (es.length : Int)) : Calls Try.prog 73 [Value.pointer (some ⟨gl, 0, none⟩), .int .i64 k].toArray w (Val (.bool (readyK es t hh.2.2 k)) w) := by
  refine calls_body (n := 30) Try.func73 rfl rfl rfl (St.init _ []) ?_
  refine cd_seq ?_
  refine cd_region ?_
  refine at_does (does_box rfl (.one rfl) (fun _ => .nil)) rfl (fun g1 => ?_)
  refine at_pure (pv_assign rfl) rfl ?_
  refine at_nil ?_
  refine ex_go ?_
  refine cd_seq ?_
  refine cd_region ?_
  refine at_pure (pv_makeFunc rfl rfl) rfl ?_
  refine at_pure (pv_assign rfl) rfl ?_
  refine at_nil ?_
  refine ex_go ?_
  refine cd_seq ?_
  have hat := at1_get (xs := es) (k := k.toNat) (by omega)
  have hhlen := hok.bef.1
  refine cd_region ?_
  refine at_pure (by exact pv_load ld_93 rfl (box_cell .z .z)) rfl ?_
  refine at_pure (pv_nilCheck rfl) rfl ?_
  refine at_pure (pv_field0 fa_96_3 rfl (r := 3) rfl) rfl ?_
  refine at_pure (pv_load ld_22 rfl (old_cell (cell_of_block hpl rfl) (by simp))) rfl ?_
  refine at_pure (pv_move rfl) rfl ?_
  refine at_pure (pv_ix Try.underlying22 cz_3 rfl rfl (by first | omega | (simp only [decide_eq_true_eq, decide_eq_false_iff_not] at *; omega)) he.real (k := k.toNat) (by omega)) rfl ?_
  refine at_pure (pv_elem0 ld_3 rfl (he.get hat .z)) rfl ?_
  refine at_pure (pv_lss rfl rfl) rfl ?_
  refine at_pure (pv_move rfl) rfl ?_
  refine at_split 15 rfl (fun hb1 => ?_) (fun hb1 => ?_)
  · skip
    refine at_pure_g rfl rfl hb1 (by exact pv_load ld_93 rfl (box_cell .z .z)) rfl ?_
    refine at_pure_g rfl rfl hb1 (pv_nilCheck rfl) rfl ?_
    refine at_pure_g rfl rfl hb1 (pv_field0 fa_96_0 rfl (r := 0) rfl) rfl ?_
    refine at_pure_g rfl rfl hb1 (pv_load ld_83 rfl (old_cell (cell_of_block hpl rfl) (by simp))) rfl ?_
    refine at_pure_g rfl rfl hb1 (pv_nilCheck rfl) rfl ?_
    refine at_pure_g rfl rfl hb1 (pv_field0 fa_90_4 rfl (r := 5) rfl) rfl ?_
    refine at_pure_g rfl rfl hb1 (pv_load ld_47 rfl (old_cell (cell_of_block hpx rfl) (by simp))) rfl ?_
    refine at_pure_g rfl rfl hb1 (pv_move rfl) rfl ?_
    refine at_pure_g rfl rfl hb1 (pv_ix Try.underlying47 cz_22 rfl rfl (by first | omega | (simp only [decide_eq_true_eq, decide_eq_false_iff_not] at *; omega)) (.inr rfl) (k := k.toNat) (by omega)) rfl ?_
    refine at_pure_g rfl rfl hb1 (pv_elem0 ld_22 rfl (hbf.get hhk .z)) rfl ?_
    refine at_pure_g rfl rfl hb1 (pv_move rfl) rfl ?_
    refine at_does_g rfl rfl hb1 (does_val cal55 rfl rfl rfl (fun w hs => contains_ints hh.1 hh.2.1 hh.2.2 (lateB es t) 85 #[] #[Value.pointer (some ⟨g1, 0, none⟩)] w ((hrows hh (List.mem_of_getElem? hhk)).at' hs) cal85 (fun z hz w' k' => late_go p gl t fa ea sa fl fc ec sl sc es g1 z w' (block_keep (hs.box (i := 0) rfl) k') (block_keep hpl (hs.keep.trans k')) ((he.at' hs).keep k') (hrow z hz)))) rfl (fun _ => ?_)
    refine at_pure_g rfl rfl hb1 (pv_not rfl) rfl ?_
    refine at_pure (pv_pick_t rfl hb1 rfl) rfl ?_
    refine at_pure (pv_assign rfl) rfl ?_
    refine at_nil ?_
    refine ex_go ?_
    refine cd_ret ?_
    exact end_ret1 rfl rfl (fun w hs => ⟨by clear hs; refine congrArg (fun b => Ending.returned (.bool b)) ?_; unfold readyK; simp only [Bool.true_and, Bool.false_and, *], hs.keep⟩)
  · skip
    refine at_skip rfl rfl hb1 rfl ?_
    refine at_skip rfl rfl hb1 rfl ?_
    refine at_skip rfl rfl hb1 rfl ?_
    refine at_skip rfl rfl hb1 rfl ?_
    refine at_skip rfl rfl hb1 rfl ?_
    refine at_skip rfl rfl hb1 rfl ?_
    refine at_skip rfl rfl hb1 rfl ?_
    refine at_skip rfl rfl hb1 rfl ?_
    refine at_skip rfl rfl hb1 rfl ?_
    refine at_skip rfl rfl hb1 rfl ?_
    refine at_skip rfl rfl hb1 rfl ?_
    refine at_skip rfl rfl hb1 rfl ?_
    refine at_skip rfl rfl hb1 rfl ?_
    refine at_pure (pv_pick_f rfl hb1 rfl) rfl ?_
    refine at_pure (pv_assign rfl) rfl ?_
    refine at_nil ?_
    refine ex_go ?_
    refine cd_ret ?_
    exact end_ret1 rfl rfl (fun w hs => ⟨by clear hs; refine congrArg (fun b => Ending.returned (.bool b)) ?_; unfold readyK; simp only [Bool.true_and, Bool.false_and, *], hs.keep⟩)

end Go.Proofs.Ytkejdfnpbkdllaa
