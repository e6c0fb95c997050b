/- The law ScheduleGraham. -/
import Derived.Test.YtkejdfnpbkdllaaLaw4F
import Derived.Test.YtkejdfnpbkdllaaSan25
import Derived.Test.YtkejdfnpbkdllaaVal2
import Derived.Test.YtkejdfnpbkdllaaGrahP
set_option linter.unusedVariables false
set_option linter.unusedSimpArgs false
set_option maxRecDepth 20000
namespace Go.Proofs.Ytkejdfnpbkdllaa
open Go Go.RowKit Go.Proofs.YtkejdfnpbkdllaaV
theorem mill_prob {z : MZ} (hz : MillOk z) {w : Int} (h : 1 ≤ w ∧ w ≤ 8) : problemS z.ns z.ls z.cs w = true := by
  refine prob_yes hz.valid (by rw [hz.clen]; exact beq_self_eq_true _) (by omega) (by omega) ?_
  rw [List.all_eq_true]
  intro c hc
  have := hz.cost c hc
  unfold costB
  simp only [Bool.and_eq_true, decide_eq_true_eq]
  omega
theorem compO_of {ns ls : List Q4} {cs : List Int} {wk : Int} (hp : problemS ns ls cs wk = true) : compO ns ls cs wk = compS ns ls cs wk.toNat ∧ compE ns ls cs wk = 0 := by
  unfold compO compE
  rw [hp]; exact ⟨rfl, rfl⟩
theorem graham_o {ns ls : List Q4} {cs : List Int} {wk : Int} (hp : problemS ns ls cs wk = true) : SV ns ls cs wk (compO ns ls cs wk) ∧ critS ns ls cs ≤ spanS (compO ns ls cs wk) ∧ spanS (compO ns ls cs wk) ≤ boundS ns ls cs wk ∧ (wk = 1 → spanS (compO ns ls cs wk) = sumS cs) := by
  have hpo := prob_of hp
  have e : (wk.toNat : Int) = wk := by omega
  have h := graham (ns := ns) (ls := ls) (cs := cs) (wk := wk.toNat) (by rw [e]; exact hp)
  rw [e] at h
  rw [(compO_of hp).1]
  exact ⟨h.1, h.2.1, h.2.2.1, fun h1 => h.2.2.2 (by omega)⟩
theorem valid_true (a b : Option Addr) (ca cb : Nat) (ns ls : List Q4) (c : Option Addr) (cc : Nat) (cs : List Int) (wk : Int) (d : Option Addr) (cd : Nat) (l : List Q4) (hs : SV ns ls cs wk l) (w : World) (hn : Sl [] enc4 4 w a ca ns) (hl : Sl [] enc4 4 w b cb ls) (hc : Sl [] enc1 1 w c cc cs) (hL : Sl [] enc4 4 w d cd l) : Calls Try.prog 15 [.agg #[.slice a ns.length ca, .slice b ls.length cb], .slice c cs.length cc, .int .i64 wk, .slice d l.length cd].toArray w (Val (.bool true) w) := by
  have h := valid25_go a b ca cb ns ls c cc cs wk d cd l w hn hl hc hL
  rw [schV_yes hs] at h
  exact h
theorem span_sum (c : Option Addr) (cc : Nat) (l : List Q4) (n : Int) (hn : spanS l = n) (w : World) (hx : Sl [] enc4 4 w c cc l) : Calls Try.prog 18 [.slice c l.length cc].toArray w (Val (.int .i64 n) w) := by
  have h := span_go c cc l w hx
  rw [hn] at h
  exact h
theorem bound_sum (a b : Option Addr) (ca cb : Nat) (ns ls : List Q4) (c : Option Addr) (cc : Nat) (cs : List Int) (hp : problemS ns ls cs 1 = true) (w : World) (hn : Sl [] enc4 4 w a ca ns) (hl : Sl [] enc4 4 w b cb ls) (hc : Sl [] enc1 1 w c cc cs) : Calls Try.prog 20 [.agg #[.slice a ns.length ca, .slice b ls.length cb], .slice c cs.length cc, .int .i64 1].toArray w (Val (.int .i64 (sumS cs)) w) := by
  have h := bound_full a b ca cb ns ls c cc cs 1 w hn hl hc
  rw [bound_one hp] at h
  exact h

set_option maxRecDepth 10000 in
set_option maxHeartbeats 2000000 in
theorem scheduleGraham_any (a0 : Option Addr) (len0 cap0 : Nat) (wk : Int) (w : World) (hI : Ints [] w a0 len0) (hlen : len0 ≤ 17592186044416) : Calls Try.prog 4 [.slice a0 len0 cap0, .int .i64 wk].toArray w (Val (.bool true) w) := by
  refine calls_body (n := 91) Try.func4 rfl rfl rfl (St.init _ []) ?_
  refine cd_seq ?_
  refine cd_region ?_
  refine at_pure (pv_assign rfl) rfl ?_
  refine at_nil ?_
  refine ex_go ?_
  refine cd_seq ?_
  refine cd_seq ?_
  refine cd_region ?_
  refine at_does (does_val cal10 rfl rfl rfl (fun w hs => sane_25 w)) rfl (fun _ => ?_)
  refine at_pure (pv_not rfl) rfl ?_
  refine at_nil ?_
  refine ex_go ?_
  refine cd_else rfl rfl ?_
  refine cd_skip ?_
  refine ex_go ?_
  refine cd_seq ?_
  refine cd_region ?_
  refine at_pure (pv_move rfl) rfl ?_
  refine at_does (does_gives (X := Nat) (val := fun g => Value.pointer (some ⟨g, 0, none⟩)) (Δ := fun g => [Box g [.slice a0 len0 cap0, .int .i64 0] 76]) cal12 rfl rfl rfl (fun w hs => by have h9 := deck_new a0 len0 cap0 w; exact h9) (fun _ => .nil)) rfl (fun gd => ?_)
  refine at_mades (does_mades (X := MZ) (val := fun z => .tuple #[.agg #[.slice z.an z.ns.length z.cn, .slice z.al z.ls.length z.cl], .slice z.ac z.cs.length z.cc]) (Δ := fun z => [RowP enc4 4 70 z.an z.cn z.ns, RowP enc4 4 61 z.al z.cl z.ls, RowP enc1 1 3 z.ac z.cc z.cs]) (good := MillOk) cal11 rfl rfl rfl .z (fun w hs => by have h9 := graph_any gd a0 len0 cap0 0 w (hs.box (i := 0) rfl) (hI.beside hs .z) (by omega) hlen; exact h9) (fun _ => rfl)) rfl (fun z hz => ?_)
  refine at_pure (pv_move rfl) rfl ?_
  refine at_pure (pv_extract rfl rfl) rfl ?_
  refine at_pure (pv_extract rfl rfl) rfl ?_
  refine at_does (does_alloc ze_28 .agg (fun _ => (.cons (.cons (.cons .nil))))) rfl (fun g13 => ?_)
  refine at_turns (by exact turns_store sz_28 rfl rfl .agg rfl rfl (.s (.s (.s .z))) (.rep (.rep .done)) (.s (.s (.s .z)))) ?_
  refine at_pure (pv_assign rfl) rfl ?_
  refine at_nil ?_
  refine ex_go ?_
  refine cd_seq ?_
  refine cd_region ?_
  refine at_pure (pv_move rfl) rfl ?_
  refine at_does (does_val cal13 rfl rfl rfl (fun w hs => mod_any _ _ w (by decide))) rfl (fun _ => ?_)
  refine at_pure (by first | exact pv_add_n rfl rfl (by unfold In64; omega) | exact pv_add rfl rfl) rfl ?_
  refine at_pure (pv_assign rfl) rfl ?_
  refine at_nil ?_
  refine ex_go ?_
  refine cd_seq ?_
  refine cd_region ?_
  refine at_pure (by exact pv_loads_box ag_28 rfl (.s (.s (.s .z))) (.take (.take .done))) rfl ?_
  refine at_pure (pv_move rfl) rfl ?_
  refine at_pure (pv_move rfl) rfl ?_
  refine at_does (does_gives (X := Option Addr × Nat) (val := fun u => .tuple #[.slice u.1 (compO z.ns z.ls z.cs (1 + wk % 5)).length u.2, .int .i64 (compE z.ns z.ls z.cs (1 + wk % 5))]) (Δ := fun u => [RowP enc4 4 39 u.1 u.2 (compO z.ns z.ls z.cs (1 + wk % 5))]) cal17 rfl rfl rfl (fun w hs => by have h9 := compile_full z.an z.al z.cn z.cl z.ns z.ls z.ac z.cc z.cs (1 + wk % 5) w (hs.rows len4 (by decide) .z) (hs.rows len4 (by decide) (.s .z)) (hs.rows len1 (by decide) (.s (.s .z))); exact h9) (fun _ => (.cons (.cons (.cons (.cons .nil)))))) rfl (fun u => ?_)
  refine at_pure (pv_move rfl) rfl ?_
  refine at_pure (pv_extract rfl rfl) rfl ?_
  refine at_pure (pv_extract rfl rfl) rfl ?_
  refine at_pure (pv_assign rfl) rfl ?_
  refine at_pure (pv_assign rfl) rfl ?_
  refine at_nil ?_
  refine ex_go ?_
  refine cd_seq ?_
  refine cd_region ?_
  refine at_pure (by exact pv_loads_box ag_28 rfl (.s (.s (.s .z))) (.take (.take .done))) rfl ?_
  refine at_pure (pv_move rfl) rfl ?_
  refine at_does (does_gives (X := Option Addr × Nat) (val := fun u => .tuple #[.slice u.1 (compO z.ns z.ls z.cs 1).length u.2, .int .i64 (compE z.ns z.ls z.cs 1)]) (Δ := fun u => [RowP enc4 4 39 u.1 u.2 (compO z.ns z.ls z.cs 1)]) cal17 rfl rfl rfl (fun w hs => by have h9 := compile_full z.an z.al z.cn z.cl z.ns z.ls z.ac z.cc z.cs 1 w (hs.rows len4 (by decide) .z) (hs.rows len4 (by decide) (.s .z)) (hs.rows len1 (by decide) (.s (.s .z))); exact h9) (fun _ => (.cons (.cons (.cons (.cons (.cons .nil))))))) rfl (fun v => ?_)
  refine at_pure (pv_move rfl) rfl ?_
  refine at_pure (pv_extract rfl rfl) rfl ?_
  refine at_pure (pv_extract rfl rfl) rfl ?_
  refine at_pure (pv_assign rfl) rfl ?_
  refine at_pure (pv_assign rfl) rfl ?_
  refine at_nil ?_
  refine ex_go ?_
  refine cd_seq ?_
  refine cd_region ?_
  refine at_pure (pv_assign rfl) rfl ?_
  refine at_nil ?_
  refine ex_go ?_
  refine cd_seq ?_
  refine cd_seq ?_
  have hp5 := mill_prob hz (w := (1 + wk % 5)) (by omega)
  have hp1 := mill_prob hz (w := 1) (by omega)
  have hgr := graham_o hp5
  have hg1 := graham_o hp1
  have hE5 := (compO_of hp5).2
  have hE1 := (compO_of hp1).2
  have hcl := hz.clen
  have hn8 := hz.n8
  refine Cd.know (fun w hs => (hs.rows len1 (by decide) (.s (.s .z))).real) (fun hrc => ?_)
  refine cd_region ?_
  refine at_pure (pv_move rfl) rfl ?_
  refine at_pure (pv_len Try.underlying22 rfl) rfl ?_
  refine at_pure (pv_move rfl) rfl ?_
  refine at_nil ?_
  refine ex_go ?_
  refine cd_block ?_
  refine cd_loop (σ := Nat × Int) (fun s => [(5, Value.pointer (some ⟨g13, 0, none⟩)), (6, .slice z.ac z.cs.length z.cc), (7, .int .i64 (1 + wk % 5)), (8, .slice u.1 (compO z.ns z.ls z.cs (1 + wk % 5)).length u.2), (9, .int .i64 (compE z.ns z.ls z.cs (1 + wk % 5))), (10, .slice v.1 (compO z.ns z.ls z.cs 1).length v.2), (11, .int .i64 (compE z.ns z.ls z.cs 1)), (12, .int .i64 s.2), (39, .slice z.ac z.cs.length z.cc), (40, .int .i64 z.cs.length), (41, .int .i64 (s.1 : Int))]) (fun s => [RowP enc4 4 70 z.an z.cn z.ns, RowP enc4 4 61 z.al z.cl z.ls, RowP enc1 1 3 z.ac z.cc z.cs, Box g13 [.slice z.an z.ns.length z.cn, .slice z.al z.ls.length z.cl] 28, RowP enc4 4 39 u.1 u.2 (compO z.ns z.ls z.cs (1 + wk % 5)), RowP enc4 4 39 v.1 v.2 (compO z.ns z.ls z.cs 1)]) (fun s => s.1 ≤ z.cs.length ∧ sumS z.cs = (z.cs.drop s.1).foldl (· + ·) s.2 ∧ 0 ≤ s.2 ∧ s.2 ≤ (s.1 : Int) * 1099511627776) (fun s => z.cs.length - s.1) (0, 0) ⟨Nat.zero_le _, rfl, by simp, by simp⟩ ⟨rfl, rfl, rfl, rfl, rfl, rfl, rfl, rfl, rfl, rfl, rfl, trivial⟩ (by repeat first | exact sLn _ | apply sLc | apply sLd) ?_
  rintro ⟨k, o⟩ ⟨hk, hq, ho0, ho1⟩
  dsimp only at hk hq ho0 ho1 ⊢
  refine cd_seq ?_
  refine cd_region ?_
  refine at_pure (pv_lss rfl rfl) rfl ?_
  refine at_nil ?_
  refine ex_go ?_
  refine cd_seq ?_
  refine cd_if rfl (fun hlt => ?_) (fun hlt => ?_)
  · skip
    refine cd_skip ?_
    refine ex_go ?_
    refine cd_seq ?_
    refine cd_block ?_
    refine cd_seq ?_
    have hkl : k < z.cs.length := by simpa using hlt
    obtain ⟨y, hy⟩ := get_of hkl
    have hyb := hz.cost y (List.mem_of_getElem? hy)
    refine cd_region ?_
    refine at_pure (pv_ix Try.underlying22 cz_3 rfl rfl (by first | omega | (simp only [decide_eq_true_eq, decide_eq_false_iff_not] at *; omega)) hrc (k := k) (by omega)) rfl ?_
    refine at_pure (pv_elem0 ld_3 rfl (RowP.get len1 (by decide) (.s (.s .z)) hy .z)) rfl ?_
    refine at_pure (pv_assign rfl) rfl ?_
    refine at_nil ?_
    refine ex_go ?_
    refine cd_region ?_
    refine at_pure (pv_move rfl) rfl ?_
    refine at_pure (pv_move rfl) rfl ?_
    refine at_pure (by first | exact pv_add_n rfl rfl (by unfold In64; omega) | exact pv_add rfl rfl) rfl ?_
    refine at_pure (pv_assign rfl) rfl ?_
    refine at_nil ?_
    refine ex_in_normal (ex_go ?_)
    refine cd_region ?_
    refine at_pure (by first | exact pv_add_n rfl rfl (by unfold In64; omega) | exact pv_add rfl rfl) rfl ?_
    refine at_pure (pv_move rfl) rfl ?_
    refine at_nil ?_
    exact ex_meet (k + 1, o + y) ⟨⟨by dsimp only; omega, fold_step hq hy rfl, by dsimp only; omega, by dsimp only; omega⟩, by dsimp only; omega⟩ ⟨rfl, rfl, rfl, rfl, rfl, rfl, rfl, rfl, rfl, rfl, rfl, trivial⟩ (by repeat first | exact sLn _ | apply sLc | apply sLd)
  · have ho : sumS z.cs = o := fold_end hq (by simp at hlt; omega)
    subst ho
    refine cd_exit ?_
    refine ex_then_exit (ex_then_exit (ex_in (ex_go ?_)))
    refine cd_seq ?_
    refine cd_seq ?_
    refine cd_region ?_
    refine at_pure (pv_move rfl) rfl ?_
    refine at_pure (pv_neq rfl rfl) rfl ?_
    refine at_pure (pv_move rfl) rfl ?_
    refine at_pure_g rfl rfl (by simpa using hE5) (pv_move rfl) rfl ?_
    refine at_pure_g rfl rfl (by simpa using hE5) (pv_neq rfl rfl) rfl ?_
    refine at_pure (pv_pick_f rfl (by simpa using hE5) rfl) rfl ?_
    refine at_pure (pv_move rfl) rfl ?_
    refine at_pure_g rfl rfl (by simpa using hE1) (by exact pv_loads_box ag_28 rfl (.s (.s (.s .z))) (.take (.take .done))) rfl ?_
    refine at_pure_g rfl rfl (by simpa using hE1) (pv_move rfl) rfl ?_
    refine at_pure_g rfl rfl (by simpa using hE1) (pv_move rfl) rfl ?_
    refine at_pure_g rfl rfl (by simpa using hE1) (pv_move rfl) rfl ?_
    refine at_does_g rfl rfl (by simpa using hE1) (does_val cal15 rfl rfl rfl (fun w hs => valid_true z.an z.al z.cn z.cl z.ns z.ls z.ac z.cc z.cs (1 + wk % 5) u.1 u.2 (compO z.ns z.ls z.cs (1 + wk % 5)) hgr.1 w (hs.rows len4 (by decide) .z) (hs.rows len4 (by decide) (.s .z)) (hs.rows len1 (by decide) (.s (.s .z))) (hs.rows len4 (by decide) (.s (.s (.s (.s .z))))))) rfl (fun _ => ?_)
    refine at_pure_g rfl rfl (by simpa using hE1) (pv_not rfl) rfl ?_
    refine at_pure (pv_pick_f rfl (by simpa using hE1) rfl) rfl ?_
    refine at_pure (pv_move rfl) rfl ?_
    refine at_pure_g rfl rfl rfl (pv_move rfl) rfl ?_
    refine at_does_g rfl rfl rfl (does_val cal18 rfl rfl rfl (fun w hs => span_sum v.1 v.2 (compO z.ns z.ls z.cs 1) (sumS z.cs) (hg1.2.2.2 rfl) w (hs.rows len4 (by decide) (.s (.s (.s (.s (.s .z)))))))) rfl (fun _ => ?_)
    refine at_pure_g rfl rfl rfl (pv_move rfl) rfl ?_
    refine at_pure_g rfl rfl rfl (pv_neq_same rfl rfl) rfl ?_
    refine at_pure (pv_pick_f rfl rfl rfl) rfl ?_
    refine at_nil ?_
    refine ex_go ?_
    refine cd_else rfl rfl ?_
    refine cd_skip ?_
    refine ex_go ?_
    refine cd_seq ?_
    refine cd_draw' 22 follows ?_
    refine dr_take 0 rfl (by kernel_rfl) (.refl _) (pv_move rfl) rfl ?_
    refine dr_take 2 rfl (by kernel_rfl) (.refl _) (by exact pv_loads_box ag_28 rfl (.s (.s (.s .z))) (.take (.take .done))) rfl ?_
    refine dr_take 3 rfl (by kernel_rfl) (.refl _) (pv_move rfl) rfl ?_
    refine dr_one 1 (by kernel_rfl) rfl ?_
    refine at_does (does_val cal18 rfl rfl rfl (fun w hs => span_go u.1 u.2 (compO z.ns z.ls z.cs (1 + wk % 5)) w (hs.rows len4 (by decide) (.s (.s (.s (.s .z))))))) rfl (fun _ => ?_)
    refine at_nil (dr_next (fun _ => (.refl _)) ?_)
    refine dr_one 4 (by kernel_rfl) rfl ?_
    refine at_does (does_val cal19 rfl rfl rfl (fun w hs => crit_full z.an z.al z.cn z.cl z.ns z.ls z.ac z.cc z.cs w (hs.rows len4 (by decide) .z) (hs.rows len4 (by decide) (.s .z)) (hs.rows len1 (by decide) (.s (.s .z))))) rfl (fun _ => ?_)
    refine at_nil (dr_next (fun _ => (.refl _)) ?_)
    refine dr_take 5 rfl (by kernel_rfl) (.refl _) (pv_geq rfl rfl) rfl ?_
    refine dr_take 6 rfl (by kernel_rfl) (.refl _) (pv_move rfl) rfl ?_
    refine dr_take_g 7 rfl rfl rfl (by simpa using hgr.2.1) (by kernel_rfl) (.refl _) (pv_move rfl) rfl ?_
    refine dr_take_g 9 rfl rfl rfl (by simpa using hgr.2.1) (by kernel_rfl) (.refl _) (by exact pv_loads_box ag_28 rfl (.s (.s (.s .z))) (.take (.take .done))) rfl ?_
    refine dr_take_g 10 rfl rfl rfl (by simpa using hgr.2.1) (by kernel_rfl) (.refl _) (pv_move rfl) rfl ?_
    refine dr_take_g 11 rfl rfl rfl (by simpa using hgr.2.1) (by kernel_rfl) (.refl _) (pv_move rfl) rfl ?_
    refine dr_one 8 (by kernel_rfl) rfl ?_
    refine at_does_g rfl rfl (by simpa using hgr.2.1) (does_val cal18 rfl rfl rfl (fun w hs => span_go u.1 u.2 (compO z.ns z.ls z.cs (1 + wk % 5)) w (hs.rows len4 (by decide) (.s (.s (.s (.s .z))))))) rfl (fun _ => ?_)
    refine at_nil (dr_next (fun _ => (.refl _)) ?_)
    refine dr_one 12 (by kernel_rfl) rfl ?_
    refine at_does_g rfl rfl (by simpa using hgr.2.1) (does_val cal20 rfl rfl rfl (fun w hs => bound_full z.an z.al z.cn z.cl z.ns z.ls z.ac z.cc z.cs (1 + wk % 5) w (hs.rows len4 (by decide) .z) (hs.rows len4 (by decide) (.s .z)) (hs.rows len1 (by decide) (.s (.s .z))))) rfl (fun _ => ?_)
    refine at_nil (dr_next (fun _ => (.refl _)) ?_)
    refine dr_take_g 13 rfl rfl rfl (by simpa using hgr.2.1) (by kernel_rfl) (.refl _) (pv_leq rfl rfl) rfl ?_
    refine dr_take 14 rfl (by kernel_rfl) (.refl _) (pv_pick_t rfl (by simpa using hgr.2.1) rfl) rfl ?_
    refine dr_take 15 rfl (by kernel_rfl) (.refl _) (pv_move rfl) rfl ?_
    refine dr_take_g 16 rfl rfl rfl (by simpa using hgr.2.2.1) (by kernel_rfl) (.refl _) (by exact pv_loads_box ag_28 rfl (.s (.s (.s .z))) (.take (.take .done))) rfl ?_
    refine dr_take_g 17 rfl rfl rfl (by simpa using hgr.2.2.1) (by kernel_rfl) (.refl _) (pv_move rfl) rfl ?_
    refine dr_take_g 19 rfl rfl rfl (by simpa using hgr.2.2.1) (by kernel_rfl) (.refl _) (pv_move rfl) rfl ?_
    refine dr_one 18 (by kernel_rfl) rfl ?_
    refine at_does_g rfl rfl (by simpa using hgr.2.2.1) (does_val cal20 rfl rfl rfl (fun w hs => bound_sum z.an z.al z.cn z.cl z.ns z.ls z.ac z.cc z.cs hp1 w (hs.rows len4 (by decide) .z) (hs.rows len4 (by decide) (.s .z)) (hs.rows len1 (by decide) (.s (.s .z))))) rfl (fun _ => ?_)
    refine at_nil (dr_next (fun _ => (.refl _)) ?_)
    refine dr_take_g 20 rfl rfl rfl (by simpa using hgr.2.2.1) (by kernel_rfl) (.refl _) (pv_eql_same rfl rfl) rfl ?_
    refine dr_take 21 rfl (by kernel_rfl) (.refl _) (pv_pick_t rfl (by simpa using hgr.2.2.1) rfl) rfl ?_
    refine dr_one 22 (by kernel_rfl) rfl ?_
    refine at_pure (pv_assign rfl) rfl ?_
    refine at_nil (dr_next (fun h => by cases h) ?_)
    refine dr_done (by kernel_rfl) ?_
    refine ex_go ?_
    refine cd_ret ?_
    exact end_ret1 rfl rfl (fun w hs => ⟨rfl, hs.keep⟩)

end Go.Proofs.Ytkejdfnpbkdllaa
