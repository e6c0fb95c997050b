/- The longest path, the bound: the reference. -/
import Derived.Test.YtkejdfnpbkdllaaF25
import Derived.Test.YtkejdfnpbkdllaaR25
set_option linter.unusedVariables false
set_option linter.unusedSimpArgs false
set_option maxRecDepth 20000
namespace Go.Proofs.Ytkejdfnpbkdllaa
open Go Go.RowKit Go.Proofs.YtkejdfnpbkdllaaV
theorem order2_ok {ns ls : List Q4} (a b : Option Addr) (ca cb : Nat) (w : World) (hn : Sl [] enc4 4 w a ca ns) (hl : Sl [] enc4 4 w b cb ls) (hv : validS ns ls = true) :
    Calls Try.prog 38 [.agg #[.slice a ns.length ca, .slice b ls.length cb]].toArray w (Gives (fun z : Option Addr × Nat => .tuple #[.slice z.1 (orderS ns ls).length z.2, .int .i64 0]) (fun z => [RowP enc1 1 3 z.1 z.2 (orderS ns ls)]) w) := by
  have h := order2_ref a b ca cb ns ls w hn hl
  unfold ordO at h
  rw [hv] at h
  exact h
theorem place_in {ns : List Q4} {i : Int} (h : i ∈ ids ns) : 0 ≤ placeI ns i ∧ placeI ns i < ns.length := by
  have hr := fIx_range (p := fun z : Q4 => z.1 == i) ns 0
  rcases hr with h1 | h1
  · exfalso
    obtain ⟨z, hz, rfl⟩ := List.mem_map.1 h
    have : ∀ (xs : List Q4) (k : Int), 0 ≤ k → z ∈ xs → fIx (fun y => y.1 == z.1) xs k ≠ -1 := by
      intro xs
      induction xs with
      | nil => intro k _ hm; cases hm
      | cons y ys ih =>
        intro k hk hm
        unfold fIx
        cases he : (y.1 == z.1)
        · rcases List.mem_cons.1 hm with rfl | hm
          · simp at he
          · exact ih (k + 1) (by omega) hm
        · simp only [cond_true]; omega
    exact this ns 0 (Int.le_refl _) hz h1
  · unfold placeI; omega
def at1 (xs : List Int) (k : Nat) : Int := xs.getD k 0
theorem at1_get {xs : List Int} {k : Nat} (h : k < xs.length) : xs[k]? = some (at1 xs k) := by unfold at1; rw [List.getElem?_eq_getElem h, List.getD_eq_getElem?_getD, List.getElem?_eq_getElem h]; rfl
def maxI (p q : Int) : Int := if q > p then q else p
def befF (ns : List Q4) (sums : List Int) (id b : Int) (l : Q4) : Int := bif l.2.2.1 == id then maxI b (at1 sums (placeI ns l.1).toNat) else b
def befS (ns ls : List Q4) (sums : List Int) (id : Int) : Int := ls.foldl (befF ns sums id) 0
def critF (ns ls : List Q4) (cs : List Int) (st : List Int × Int) (id : Int) : List Int × Int := (st.1.set (placeI ns id).toNat (befS ns ls st.1 id + at1 cs (placeI ns id).toNat), maxI st.2 (befS ns ls st.1 id + at1 cs (placeI ns id).toNat))
def critS (ns ls : List Q4) (cs : List Int) : Int := bif problemS ns ls cs 1 then ((orderS ns ls).foldl (critF ns ls cs) (List.replicate ns.length 0, 0)).2 else 0
theorem prob_of {ns ls : List Q4} {cs : List Int} {wk : Int} (h : problemS ns ls cs wk = true) : validS ns ls = true ∧ cs.length = ns.length ∧ 1 ≤ wk ∧ wk ≤ 8 ∧ ∀ c ∈ cs, 0 ≤ c ∧ c ≤ 1099511627776 := by
  unfold problemS at h
  simp only [Bool.and_eq_true, decide_eq_true_eq, beq_iff_eq, List.all_eq_true] at h
  obtain ⟨⟨⟨⟨h1, h2⟩, h3⟩, h4⟩, h5⟩ := h
  refine ⟨h1, by omega, h3, h4, fun c hc => ?_⟩
  have := h5 c hc
  simpa [costB] using this
theorem at1_bound {xs : List Int} {k : Nat} {M : Int} (h : ∀ x ∈ xs, 0 ≤ x ∧ x ≤ M) (hM : 0 ≤ M) : 0 ≤ at1 xs k ∧ at1 xs k ≤ M := by
  unfold at1
  rw [List.getD_eq_getElem?_getD]
  cases hx : xs[k]? with
  | none => exact ⟨Int.le_refl _, hM⟩
  | some x => exact h x (List.mem_of_getElem? hx)

set_option maxRecDepth 10000 in
set_option maxHeartbeats 2000000 in
theorem critical_ref (a b : Option Addr) (ca cb : Nat) (ns ls : List Q4) (c : Option Addr) (cc : Nat) (cs : List Int) (w : World) (hn : Sl [] enc4 4 w a ca ns) (hl : Sl [] enc4 4 w b cb ls) (hc : Sl [] enc1 1 w c cc cs) : Calls Try.prog 29 [.agg #[.slice a ns.length ca, .slice b ls.length cb], .slice c cs.length cc].toArray w (Val (.int .i64 (critS ns ls cs)) w) := by
  refine calls_body (n := 85) Try.func29 rfl rfl rfl (St.init _ []) ?_
  refine cd_seq ?_
  refine cd_region ?_
  refine at_does (does_box rfl .agg (fun _ => .nil)) rfl (fun g1 => ?_)
  refine at_pure (pv_assign rfl) rfl ?_
  refine at_nil ?_
  refine ex_go ?_
  refine cd_seq ?_
  refine cd_seq ?_
  refine cd_region ?_
  refine at_pure (by exact pv_loads_box ag_28 rfl .z (.take (.take .done))) rfl ?_
  refine at_pure (pv_move rfl) rfl ?_
  refine at_does (does_val cal37 rfl rfl rfl (fun w hs => problem_ref a b ca cb ns ls c cc cs 1 w (hn.at' hs) (hl.at' hs) (hc.at' hs))) rfl (fun _ => ?_)
  refine at_pure (pv_not rfl) rfl ?_
  refine at_nil ?_
  refine ex_go ?_
  refine cd_if rfl (fun hb1 => ?_) (fun hb1 => ?_)
  · skip
    refine cd_seq ?_
    refine cd_region ?_
    refine at_pure (pv_assign rfl) rfl ?_
    refine at_nil ?_
    refine ex_go ?_
    refine cd_ret ?_
    refine ex_then_ret ?_
    exact end_ret1 rfl rfl (fun w hs => ⟨by clear hs; refine congrArg (fun b => Ending.returned (.int .i64 b)) ?_; unfold critS; first | (rw [show problemS ns ls cs 1 = false by simpa using hb1]; rfl) | (rw [hp]; exact (congrArg Prod.snd (fold_end hq (by simp at hlt; omega))).symm), hs.keep⟩)
  · skip
    refine cd_skip ?_
    refine ex_go ?_
    refine cd_seq ?_
    have hp : problemS ns ls cs 1 = true := by simpa using hb1
    have hpo := prob_of hp
    have hvf := valid_facts hpo.1
    have hvg := (valid_iff ns ls).1 hpo.1
    have hgo := (good_order ls hvg.nd).1
    refine cd_region ?_
    refine at_pure (by exact pv_loads_box ag_28 rfl .z (.take (.take .done))) rfl ?_
    refine at_does (does_gives (X := Option Addr × Nat) (val := fun z => .tuple #[.slice z.1 (orderS ns ls).length z.2, .int .i64 0]) (Δ := fun z => [RowP enc1 1 3 z.1 z.2 (orderS ns ls)]) cal38 rfl rfl rfl (fun w hs => by have h9 := order2_ok a b ca cb w (hn.at' hs) (hl.at' hs) hpo.1; exact h9) (fun _ => (.cons .nil))) rfl (fun z0 => ?_)
    refine at_pure (pv_move rfl) rfl ?_
    refine at_pure (pv_extract rfl rfl) rfl ?_
    refine at_pure (pv_extract rfl rfl) rfl ?_
    refine at_pure (pv_assign rfl) rfl ?_
    refine at_pure (pv_assign rfl) rfl ?_
    refine at_nil ?_
    refine ex_go ?_
    refine cd_seq ?_
    refine Cd.know (fun w hs => (hs.rows len1 (by decide) (.s .z)).real) (fun hreal => ?_)
    refine cd_region ?_
    refine at_pure (pv_field0 fa_28_0 rfl (r := 0) rfl) rfl ?_
    refine at_pure (by exact pv_load ld_25 rfl (box_cell .z .z)) rfl ?_
    refine at_pure (pv_len Try.underlying25 rfl) rfl ?_
    refine at_does (does_make (enc := enc1) (z0 := (0 : Int)) (v0 := .int .i64 0) rfl Try.underlying22 mk_3 (by decide) rfl rfl (by omega) (fun _ => (.cons (.cons .nil)))) rfl (fun gs => ?_)
    refine at_pure (pv_assign rfl) rfl ?_
    refine at_nil ?_
    refine ex_go ?_
    refine cd_seq ?_
    refine cd_region ?_
    refine at_pure (pv_assign rfl) rfl ?_
    refine at_nil ?_
    refine ex_go ?_
    refine cd_seq ?_
    refine cd_seq ?_
    refine cd_region ?_
    refine at_pure (pv_assign rfl) rfl ?_
    refine at_nil ?_
    refine ex_go ?_
    refine cd_block ?_
    refine cd_loop (σ := Nat × List Int × Int) (fun s => [(1, .slice c cs.length cc), (2, Value.pointer (some ⟨g1, 0, none⟩)), (5, .slice z0.1 (orderS ns ls).length z0.2), (7, .slice (some ⟨gs, 0, none⟩) ns.length ns.length), (8, .int .i64 s.2.2), (9, .int .i64 (s.1 : Int))]) (fun s => [Box g1 [.slice a ns.length ca, .slice b ls.length cb] 28, RowP enc1 1 3 z0.1 z0.2 (orderS ns ls), RowP enc1 1 3 (some ⟨gs, 0, none⟩) ns.length s.2.1]) (fun s => s.1 ≤ (orderS ns ls).length ∧ s.2.1.length = ns.length ∧ (orderS ns ls).foldl (critF ns ls cs) (List.replicate ns.length 0, 0) = ((orderS ns ls).drop s.1).foldl (critF ns ls cs) s.2 ∧ (∀ x ∈ s.2.1, 0 ≤ x ∧ x ≤ (s.1 : Int) * 1099511627776) ∧ 0 ≤ s.2.2 ∧ s.2.2 ≤ (s.1 : Int) * 1099511627776) (fun s => (orderS ns ls).length - s.1) (0, List.replicate ns.length 0, 0) ⟨Nat.zero_le _, by simp, rfl, by intro x hx; simp at hx; simp [hx.2], by simp, by simp⟩ ⟨rfl, rfl, rfl, rfl, rfl, rfl, trivial⟩ (by repeat first | exact sLn _ | apply sLc | apply sLd) ?_
    rintro ⟨k, sums, most⟩ ⟨hk, hsl, hq, hsb, hm0, hm1⟩
    dsimp only at hk hsl hq hsb hm0 hm1 ⊢
    have hk64 : k ≤ 64 := by have := hvf.1; have := hvf.2.2.2.2; omega
    refine cd_seq ?_
    refine cd_seq ?_
    refine cd_region ?_
    refine at_pure (pv_move rfl) rfl ?_
    refine at_pure (pv_move rfl) rfl ?_
    refine at_pure (pv_len Try.underlying22 rfl) rfl ?_
    refine at_pure (pv_lss rfl rfl) rfl ?_
    refine at_nil ?_
    refine ex_go ?_
    refine cd_if rfl (fun hlt => ?_) (fun hlt => ?_)
    · skip
      refine cd_skip ?_
      refine ex_go ?_
      refine cd_seq ?_
      refine cd_block ?_
      refine cd_seq ?_
      have hkl : k < (orderS ns ls).length := by simpa using hlt
      obtain ⟨z, hz⟩ := get_of hkl
      have hzi : z ∈ ids ns := hgo.sub z (List.mem_of_getElem? hz)
      have hpl := place_in hzi
      refine cd_draw' 6 follows ?_
      refine dr_take 0 rfl (by kernel_rfl) (.refl _) (by exact pv_loads_box ag_28 rfl .z (.take (.take .done))) rfl ?_
      refine dr_take 1 rfl (by kernel_rfl) (.refl _) (pv_move rfl) rfl ?_
      refine dr_take 2 rfl (by kernel_rfl) (.refl _) (pv_move rfl) rfl ?_
      refine dr_take 3 rfl (by kernel_rfl) (.refl _) (pv_ix Try.underlying22 cz_3 rfl rfl (by first | omega | (simp only [decide_eq_true_eq, decide_eq_false_iff_not] at *; omega)) hreal (k := k) (by omega)) rfl ?_
      refine dr_take 4 rfl (by kernel_rfl) (.refl _) (pv_elem0 ld_3 rfl (RowP.get len1 (by decide) (.s .z) hz .z)) rfl ?_
      refine dr_one 5 (by kernel_rfl) rfl ?_
      refine at_does (does_val cal42 rfl rfl rfl (fun w hs => place_25 a b ca cb ns ls _ w (hn.at' hs) (hl.at' hs))) rfl (fun _ => ?_)
      refine at_nil (dr_next (fun _ => (.refl _)) ?_)
      refine dr_one 6 (by kernel_rfl) rfl ?_
      refine at_pure (pv_assign rfl) rfl ?_
      refine at_nil (dr_next (fun h => by cases h) ?_)
      refine dr_one 7 (by kernel_rfl) rfl ?_
      refine at_pure (pv_assign rfl) rfl ?_
      refine at_nil (dr_next (fun h => by cases h) ?_)
      refine dr_done (by kernel_rfl) ?_
      refine ex_go ?_
      refine cd_seq ?_
      refine cd_seq ?_
      refine cd_region ?_
      refine at_pure (pv_assign rfl) rfl ?_
      refine at_nil ?_
      refine ex_go ?_
      refine cd_block ?_
      refine cd_loop (σ := Nat × Int) (fun s => [(1, .slice c cs.length cc), (2, Value.pointer (some ⟨g1, 0, none⟩)), (5, .slice z0.1 (orderS ns ls).length z0.2), (7, .slice (some ⟨gs, 0, none⟩) ns.length ns.length), (8, .int .i64 most), (9, .int .i64 (k : Int)), (10, .int .i64 (placeI ns z)), (11, .int .i64 s.2), (12, .int .i64 (s.1 : Int))]) (fun s => [Box g1 [.slice a ns.length ca, .slice b ls.length cb] 28, RowP enc1 1 3 z0.1 z0.2 (orderS ns ls), RowP enc1 1 3 (some ⟨gs, 0, none⟩) ns.length sums]) (fun s => s.1 ≤ ls.length ∧ befS ns ls sums z = (ls.drop s.1).foldl (befF ns sums z) s.2 ∧ 0 ≤ s.2 ∧ s.2 ≤ (k : Int) * 1099511627776) (fun s => ls.length - s.1) (0, 0) ⟨Nat.zero_le _, rfl, by simp, by dsimp only; omega⟩ ⟨rfl, rfl, rfl, rfl, rfl, rfl, rfl, rfl, rfl, trivial⟩ (by repeat first | exact sLn _ | apply sLc | apply sLd) ?_
      rintro ⟨j, b'⟩ ⟨hj, hq2, hb0, hb1'⟩
      dsimp only at hj hq2 hb0 hb1' ⊢
      refine cd_seq ?_
      refine cd_seq ?_
      refine cd_region ?_
      refine at_pure (pv_move rfl) rfl ?_
      refine at_pure (pv_field0 fa_28_1 rfl (r := 1) rfl) rfl ?_
      refine at_pure (by exact pv_load ld_26 rfl (box_cell .z (.s .z))) rfl ?_
      refine at_pure (pv_len Try.underlying26 rfl) rfl ?_
      refine at_pure (pv_lss rfl rfl) rfl ?_
      refine at_nil ?_
      refine ex_go ?_
      refine cd_if rfl (fun hlt2 => ?_) (fun hlt2 => ?_)
      · skip
        refine cd_skip ?_
        refine ex_go ?_
        refine cd_seq ?_
        refine cd_block ?_
        refine cd_seq ?_
        have hjl : j < ls.length := by simpa using hlt2
        obtain ⟨y, hy⟩ := get_of hjl
        have hyi := (ports_ends (hvg.port y (List.mem_of_getElem? hy))).1
        have hpy := place_in hyi
        have hat := at1_get (xs := sums) (k := (placeI ns y.1).toNat) (by omega)
        have hab := at1_bound (k := (placeI ns y.1).toNat) hsb (by omega)
        refine cd_draw' 11 follows ?_
        refine dr_take 0 rfl (by kernel_rfl) (.refl _) (pv_field0 fa_28_1 rfl (r := 1) rfl) rfl ?_
        refine dr_take 1 rfl (by kernel_rfl) (.refl _) (by exact pv_load ld_26 rfl (box_cell .z (.s .z))) rfl ?_
        refine dr_take 2 rfl (by kernel_rfl) (.refl _) (pv_move rfl) rfl ?_
        refine dr_take 3 rfl (by kernel_rfl) (.refl _) (pv_ix Try.underlying26 cz_61 rfl rfl (by first | omega | (simp only [decide_eq_true_eq, decide_eq_false_iff_not] at *; omega)) hl.real (k := j) (by omega)) rfl ?_
        refine dr_take 4 rfl (by kernel_rfl) (.refl _) (pv_fieldAddr fa_61_2 rfl) rfl ?_
        refine dr_take 5 rfl (by kernel_rfl) (.refl _) (pv_elem ld_3 rfl (hl.get hy (.s (.s .z)))) rfl ?_
        refine dr_take 6 rfl (by kernel_rfl) (.refl _) (pv_move rfl) rfl ?_
        refine dr_take 7 rfl (by kernel_rfl) (.refl _) (pv_move rfl) rfl ?_
        refine dr_take 8 rfl (by kernel_rfl) (.refl _) (pv_ix Try.underlying22 cz_3 rfl rfl (by first | omega | (simp only [decide_eq_true_eq, decide_eq_false_iff_not] at *; omega)) hreal (k := k) (by omega)) rfl ?_
        refine dr_take 9 rfl (by kernel_rfl) (.refl _) (pv_elem0 ld_3 rfl (RowP.get len1 (by decide) (.s .z) hz .z)) rfl ?_
        refine dr_take 10 rfl (by kernel_rfl) (.refl _) (pv_eql rfl rfl) rfl ?_
        refine dr_done (by kernel_rfl) ?_
        refine ex_go ?_
        refine cd_if rfl (fun hb4 => ?_) (fun hb4 => ?_)
        · skip
          refine cd_draw' 13 follows ?_
          refine dr_take 0 rfl (by kernel_rfl) (.refl _) (pv_move rfl) rfl ?_
          refine dr_take 1 rfl (by kernel_rfl) (.refl _) (pv_move rfl) rfl ?_
          refine dr_take 2 rfl (by kernel_rfl) (.refl _) (by exact pv_loads_box ag_28 rfl .z (.take (.take .done))) rfl ?_
          refine dr_take 3 rfl (by kernel_rfl) (.refl _) (pv_field0 fa_28_1 rfl (r := 1) rfl) rfl ?_
          refine dr_take 4 rfl (by kernel_rfl) (.refl _) (by exact pv_load ld_26 rfl (box_cell .z (.s .z))) rfl ?_
          refine dr_take 5 rfl (by kernel_rfl) (.refl _) (pv_move rfl) rfl ?_
          refine dr_take 6 rfl (by kernel_rfl) (.refl _) (pv_ix Try.underlying26 cz_61 rfl rfl (by first | omega | (simp only [decide_eq_true_eq, decide_eq_false_iff_not] at *; omega)) hl.real (k := j) (by omega)) rfl ?_
          refine dr_take 7 rfl (by kernel_rfl) (.refl _) (pv_fieldAddr fa_61_0 rfl) rfl ?_
          refine dr_take 8 rfl (by kernel_rfl) (.refl _) (pv_elem ld_3 rfl (hl.get hy .z)) rfl ?_
          refine dr_one 9 (by kernel_rfl) rfl ?_
          refine at_does (does_val cal42 rfl rfl rfl (fun w hs => place_25 a b ca cb ns ls _ w (hn.at' hs) (hl.at' hs))) rfl (fun _ => ?_)
          refine at_nil (dr_next (fun _ => (.refl _)) ?_)
          refine dr_take 10 rfl (by kernel_rfl) (.refl _) (pv_ix Try.underlying22 cz_3 rfl rfl (by first | omega | (simp only [decide_eq_true_eq, decide_eq_false_iff_not] at *; omega)) (.inr rfl) (k := (placeI ns y.1).toNat) (by omega)) rfl ?_
          refine dr_take 11 rfl (by kernel_rfl) (.refl _) (pv_elem0 ld_3 rfl (RowP.get len1 (by decide) (.s (.s .z)) hat .z)) rfl ?_
          refine dr_take 12 rfl (by kernel_rfl) (.refl _) (pv_max rfl rfl) rfl ?_
          refine dr_one 13 (by kernel_rfl) rfl ?_
          refine at_pure (pv_assign rfl) rfl ?_
          refine at_nil (dr_next (fun h => by cases h) ?_)
          refine dr_done (by kernel_rfl) ?_
          refine ex_in_normal (ex_go ?_)
          refine cd_region ?_
          refine at_pure (pv_move rfl) rfl ?_
          refine at_pure (by first | exact pv_add_n rfl rfl (by unfold In64; omega) | exact pv_add rfl rfl) rfl ?_
          refine at_pure (pv_assign rfl) rfl ?_
          refine at_nil ?_
          first | exact ex_meet (j + 1, b') ⟨⟨by dsimp only; omega, fold_step hq2 hy (by unfold befF; rw [show (y.2.2.1 == z) = false by assumption]; rfl), hb0, hb1'⟩, by dsimp only; omega⟩ ⟨rfl, rfl, rfl, rfl, rfl, rfl, rfl, rfl, rfl, trivial⟩ (by repeat first | exact sLn _ | apply sLc | apply sLd) | exact ex_meet (j + 1, maxI b' (at1 sums (placeI ns y.1).toNat)) ⟨⟨by dsimp only; omega, fold_step hq2 hy (by unfold befF; rw [show (y.2.2.1 == z) = true by assumption]; rfl), by dsimp only; unfold maxI; split <;> omega, by dsimp only; unfold maxI; split <;> omega⟩, by dsimp only; omega⟩ ⟨rfl, rfl, rfl, rfl, rfl, rfl, rfl, rfl, rfl, trivial⟩ (by repeat first | exact sLn _ | apply sLc | apply sLd)
        · skip
          refine cd_skip ?_
          refine ex_in_normal (ex_go ?_)
          refine cd_region ?_
          refine at_pure (pv_move rfl) rfl ?_
          refine at_pure (by first | exact pv_add_n rfl rfl (by unfold In64; omega) | exact pv_add rfl rfl) rfl ?_
          refine at_pure (pv_assign rfl) rfl ?_
          refine at_nil ?_
          first | exact ex_meet (j + 1, b') ⟨⟨by dsimp only; omega, fold_step hq2 hy (by unfold befF; rw [show (y.2.2.1 == z) = false by assumption]; rfl), hb0, hb1'⟩, by dsimp only; omega⟩ ⟨rfl, rfl, rfl, rfl, rfl, rfl, rfl, rfl, rfl, trivial⟩ (by repeat first | exact sLn _ | apply sLc | apply sLd) | exact ex_meet (j + 1, maxI b' (at1 sums (placeI ns y.1).toNat)) ⟨⟨by dsimp only; omega, fold_step hq2 hy (by unfold befF; rw [show (y.2.2.1 == z) = true by assumption]; rfl), by dsimp only; unfold maxI; split <;> omega, by dsimp only; unfold maxI; split <;> omega⟩, by dsimp only; omega⟩ ⟨rfl, rfl, rfl, rfl, rfl, rfl, rfl, rfl, rfl, trivial⟩ (by repeat first | exact sLn _ | apply sLc | apply sLd)
      · skip
        refine cd_exit ?_
        refine ex_then_exit (ex_then_exit (ex_in (ex_go ?_)))
        refine cd_seq ?_
        have hbb : b' = befS ns ls sums z := (fold_end hq2 (by simp at hlt2; omega)).symm
        obtain ⟨bb, hbbe⟩ : ∃ bb, bb = b' := ⟨_, rfl⟩
        rw [← hbbe] at hbb hb0 hb1' ⊢
        have hac := at1_get (xs := cs) (k := (placeI ns z).toNat) (by omega)
        have hacb := at1_bound (k := (placeI ns z).toNat) hpo.2.2.2.2 (by omega)
        have has := at1_get (xs := sums) (k := (placeI ns z).toNat) (by omega)
        have hset : (sums.set (placeI ns z).toNat (bb + at1 cs (placeI ns z).toNat))[(placeI ns z).toNat]? = some (bb + at1 cs (placeI ns z).toNat) := List.getElem?_set_self (by omega)
        refine cd_region ?_
        refine at_pure (pv_move rfl) rfl ?_
        refine at_pure (pv_move rfl) rfl ?_
        refine at_pure (pv_move rfl) rfl ?_
        refine at_pure (pv_move rfl) rfl ?_
        refine at_pure (pv_move rfl) rfl ?_
        refine at_pure (pv_ix Try.underlying22 cz_3 rfl rfl (by first | omega | (simp only [decide_eq_true_eq, decide_eq_false_iff_not] at *; omega)) hc.real (k := (placeI ns z).toNat) (by omega)) rfl ?_
        refine at_pure (pv_elem0 ld_3 rfl (hc.get hac .z)) rfl ?_
        refine at_pure (by first | exact pv_add_n rfl rfl (by unfold In64; omega) | exact pv_add rfl rfl) rfl ?_
        refine at_pure (pv_ix Try.underlying22 cz_3 rfl rfl (by first | omega | (simp only [decide_eq_true_eq, decide_eq_false_iff_not] at *; omega)) (.inr rfl) (k := (placeI ns z).toNat) (by omega)) rfl ?_
        refine at_turns (by exact turns_put (z' := bb + at1 cs (placeI ns z).toNat) (k := (placeI ns z).toNat) (q := 0) len1 sz_3 rfl rfl rfl (.one rfl) rfl rfl (.s (.s .z)) has rfl (Nat.le_of_ble_eq_true rfl) (.s (.s .z))) ?_
        refine at_nil ?_
        refine ex_go ?_
        refine cd_region ?_
        refine at_pure (pv_move rfl) rfl ?_
        refine at_pure (pv_move rfl) rfl ?_
        refine at_pure (pv_move rfl) rfl ?_
        refine at_pure (pv_ix Try.underlying22 cz_3 rfl rfl (by first | omega | (simp only [decide_eq_true_eq, decide_eq_false_iff_not] at *; omega)) (.inr rfl) (k := (placeI ns z).toNat) (by omega)) rfl ?_
        refine at_pure (pv_elem0 ld_3 rfl (RowP.get len1 (by decide) (.s (.s .z)) hset .z)) rfl ?_
        refine at_pure (pv_max rfl rfl) rfl ?_
        refine at_pure (pv_assign rfl) rfl ?_
        refine at_nil ?_
        refine ex_in_normal (ex_go ?_)
        refine cd_region ?_
        refine at_pure (pv_move rfl) rfl ?_
        refine at_pure (by first | exact pv_add_n rfl rfl (by unfold In64; omega) | exact pv_add rfl rfl) rfl ?_
        refine at_pure (pv_assign rfl) rfl ?_
        refine at_nil ?_
        exact ex_meet (k + 1, sums.set (placeI ns z).toNat (bb + at1 cs (placeI ns z).toNat), maxI most (bb + at1 cs (placeI ns z).toNat)) ⟨⟨by dsimp only; omega, by dsimp only; rw [List.length_set]; exact hsl, fold_step hq hz (by unfold critF; rw [← hbb]), by dsimp only; intro x hx; rcases List.mem_or_eq_of_mem_set hx with hx | hx; have := hsb x hx; omega; omega, by dsimp only; unfold maxI; split <;> omega, by dsimp only; unfold maxI; split <;> omega⟩, by dsimp only; omega⟩ ⟨rfl, rfl, rfl, rfl, rfl, rfl, trivial⟩ (by repeat first | exact sLn _ | apply sLc | apply sLd)
    · skip
      refine cd_exit ?_
      refine ex_then_exit (ex_then_exit (ex_in (ex_go ?_)))
      refine cd_seq ?_
      refine cd_region ?_
      refine at_pure (pv_move rfl) rfl ?_
      refine at_pure (pv_assign rfl) rfl ?_
      refine at_nil ?_
      refine ex_go ?_
      refine cd_ret ?_
      exact end_ret1 rfl rfl (fun w hs => ⟨by clear hs; refine congrArg (fun b => Ending.returned (.int .i64 b)) ?_; unfold critS; first | (rw [show problemS ns ls cs 1 = false by simpa using hb1]; rfl) | (rw [hp]; exact (congrArg Prod.snd (fold_end hq (by simp at hlt; omega))).symm), hs.keep⟩)

theorem maxI_bound {p q M : Int} (h1 : 0 ≤ p ∧ p ≤ M) (h2 : 0 ≤ q ∧ q ≤ M) : 0 ≤ maxI p q ∧ maxI p q ≤ M := by unfold maxI; split <;> omega
theorem befS_bound {ns : List Q4} {sums : List Int} {id M : Int} (hM : 0 ≤ M) (h : ∀ x ∈ sums, 0 ≤ x ∧ x ≤ M) : ∀ (ls : List Q4) (b : Int), 0 ≤ b ∧ b ≤ M → 0 ≤ ls.foldl (befF ns sums id) b ∧ ls.foldl (befF ns sums id) b ≤ M
  | [], b, hb => hb
  | l :: ls, b, hb => by
    rw [List.foldl_cons]
    refine befS_bound hM h ls _ ?_
    unfold befF
    cases l.2.2.1 == id
    · exact hb
    · exact maxI_bound hb (at1_bound h hM)
theorem crit_bound {ns ls : List Q4} {cs : List Int} (hc : ∀ c ∈ cs, 0 ≤ c ∧ c ≤ 1099511627776) : ∀ (os : List Int) (st : List Int × Int) (M : Int), 0 ≤ M → (∀ x ∈ st.1, 0 ≤ x ∧ x ≤ M) → 0 ≤ st.2 ∧ st.2 ≤ M → 0 ≤ (os.foldl (critF ns ls cs) st).2 ∧ (os.foldl (critF ns ls cs) st).2 ≤ M + os.length * 1099511627776
  | [], st, M, hM, h1, h2 => by simpa using h2
  | o :: os, st, M, hM, h1, h2 => by
    rw [List.foldl_cons]
    have hb := befS_bound (ns := ns) (id := o) hM h1 ls 0 ⟨Int.le_refl _, hM⟩
    change 0 ≤ befS ns ls st.1 o ∧ befS ns ls st.1 o ≤ M at hb
    have ha := at1_bound (k := (placeI ns o).toNat) hc (by omega)
    have := crit_bound (ns := ns) (ls := ls) hc os (critF ns ls cs st o) (M + 1099511627776) (by omega) (fun x hx => ?_) (maxI_bound (by omega) (by omega))
    · rw [List.length_cons]
      omega
    · rcases List.mem_or_eq_of_mem_set hx with hx | hx
      · have := h1 x hx; omega
      · omega
theorem critS_bound (ns ls : List Q4) (cs : List Int) : 0 ≤ critS ns ls cs ∧ critS ns ls cs ≤ 70368744177664 := by
  unfold critS
  cases hp : problemS ns ls cs 1
  · exact ⟨Int.le_refl _, (by omega : (0 : Int) ≤ 70368744177664)⟩
  · have hpo := prob_of hp
    have hvf := valid_facts hpo.1
    have := crit_bound (ns := ns) (ls := ls) hpo.2.2.2.2 (orderS ns ls) (List.replicate ns.length 0, 0) 0 (Int.le_refl _) (by intro x hx; simp at hx; simp [hx.2]) ⟨Int.le_refl _, Int.le_refl _⟩
    have h1 := hvf.1
    have h2 := hvf.2.2.2.2
    simp only [cond_true]
    omega
def sumS (cs : List Int) : Int := cs.foldl (· + ·) 0
def boundS (ns ls : List Q4) (cs : List Int) (wk : Int) : Int := bif problemS ns ls cs wk then (sumS cs + (wk - 1) * critS ns ls cs) / wk else 0
theorem mul_bound {x y : Int} (h1 : 0 ≤ x ∧ x ≤ 7) (h2 : 0 ≤ y ∧ y ≤ 70368744177664) : 0 ≤ x * y ∧ x * y ≤ 492581209243648 := by
  refine ⟨Int.mul_nonneg h1.1 h2.1, ?_⟩
  have := Int.mul_le_mul h1.2 h2.2 h2.1 (by omega)
  omega

theorem bound_ref (a b : Option Addr) (ca cb : Nat) (ns ls : List Q4) (c : Option Addr) (cc : Nat) (cs : List Int) (wk : Int) (w : World) (hn : Sl [] enc4 4 w a ca ns) (hl : Sl [] enc4 4 w b cb ls) (hc : Sl [] enc1 1 w c cc cs) : Calls Try.prog 30 [.agg #[.slice a ns.length ca, .slice b ls.length cb], .slice c cs.length cc, .int .i64 wk].toArray w (Val (.int .i64 (boundS ns ls cs wk)) w) := by
  refine calls_body (n := 36) Try.func30 rfl rfl rfl (St.init _ []) ?_
  refine cd_seq ?_
  refine cd_region ?_
  refine at_does (does_box rfl .agg (fun _ => .nil)) rfl (fun g1 => ?_)
  refine at_pure (pv_assign rfl) rfl ?_
  refine at_nil ?_
  refine ex_go ?_
  refine cd_seq ?_
  refine cd_seq ?_
  refine cd_region ?_
  refine at_pure (by exact pv_loads_box ag_28 rfl .z (.take (.take .done))) rfl ?_
  refine at_pure (pv_move rfl) rfl ?_
  refine at_pure (pv_move rfl) rfl ?_
  refine at_does (does_val cal37 rfl rfl rfl (fun w hs => problem_ref a b ca cb ns ls c cc cs wk w (hn.at' hs) (hl.at' hs) (hc.at' hs))) rfl (fun _ => ?_)
  refine at_pure (pv_not rfl) rfl ?_
  refine at_nil ?_
  refine ex_go ?_
  refine cd_if rfl (fun hb1 => ?_) (fun hb1 => ?_)
  · skip
    refine cd_seq ?_
    refine cd_region ?_
    refine at_pure (pv_assign rfl) rfl ?_
    refine at_nil ?_
    refine ex_go ?_
    refine cd_ret ?_
    refine ex_then_ret ?_
    exact end_ret1 rfl rfl (fun w hs => ⟨by clear hs; refine congrArg (fun b => Ending.returned (.int .i64 b)) ?_; unfold boundS; first | (rw [show problemS ns ls cs wk = false by simpa using hb1]; rfl) | (rw [hp, hsum]; rfl), hs.keep⟩)
  · skip
    refine cd_skip ?_
    refine ex_go ?_
    refine cd_seq ?_
    have hp : problemS ns ls cs wk = true := by simpa using hb1
    have hpo := prob_of hp
    have hvf := valid_facts hpo.1
    refine cd_region ?_
    refine at_pure (pv_assign rfl) rfl ?_
    refine at_nil ?_
    refine ex_go ?_
    refine cd_seq ?_
    refine cd_seq ?_
    refine cd_region ?_
    refine at_pure (pv_assign rfl) rfl ?_
    refine at_nil ?_
    refine ex_go ?_
    refine cd_block ?_
    refine cd_loop (σ := Nat × Int) (fun s => [(1, .slice c cs.length cc), (2, .int .i64 wk), (3, Value.pointer (some ⟨g1, 0, none⟩)), (7, .int .i64 s.2), (8, .int .i64 (s.1 : Int))]) (fun s => [Box g1 [.slice a ns.length ca, .slice b ls.length cb] 28]) (fun s => s.1 ≤ cs.length ∧ sumS cs = (cs.drop s.1).foldl (· + ·) s.2 ∧ 0 ≤ s.2 ∧ s.2 ≤ (s.1 : Int) * 1099511627776) (fun s => cs.length - s.1) (0, 0) ⟨Nat.zero_le _, rfl, by simp, by simp⟩ ⟨rfl, rfl, rfl, rfl, rfl, trivial⟩ (by repeat first | exact sLn _ | apply sLc | apply sLd) ?_
    rintro ⟨k, o⟩ ⟨hk, hq, ho0, ho1⟩
    dsimp only at hk hq ho0 ho1 ⊢
    refine cd_seq ?_
    refine cd_seq ?_
    refine cd_region ?_
    refine at_pure (pv_move rfl) rfl ?_
    refine at_pure (pv_move rfl) rfl ?_
    refine at_pure (pv_len Try.underlying22 rfl) rfl ?_
    refine at_pure (pv_lss rfl rfl) rfl ?_
    refine at_nil ?_
    refine ex_go ?_
    refine cd_if rfl (fun hlt => ?_) (fun hlt => ?_)
    · skip
      refine cd_skip ?_
      refine ex_go ?_
      refine cd_seq ?_
      refine cd_block ?_
      have hkl : k < cs.length := by simpa using hlt
      obtain ⟨z, hz⟩ := get_of hkl
      have hzb := hpo.2.2.2.2 z (List.mem_of_getElem? hz)
      have hc64 : cs.length ≤ 64 := by have := hvf.1; omega
      refine cd_region ?_
      refine at_pure (pv_move rfl) rfl ?_
      refine at_pure (pv_move rfl) rfl ?_
      refine at_pure (pv_move rfl) rfl ?_
      refine at_pure (pv_ix Try.underlying22 cz_3 rfl rfl (by first | omega | (simp only [decide_eq_true_eq, decide_eq_false_iff_not] at *; omega)) hc.real (k := k) (by omega)) rfl ?_
      refine at_pure (pv_elem0 ld_3 rfl (hc.get hz .z)) rfl ?_
      refine at_pure (by first | exact pv_add_n rfl rfl (by unfold In64; omega) | exact pv_add rfl rfl) rfl ?_
      refine at_pure (pv_assign rfl) rfl ?_
      refine at_nil ?_
      refine ex_in_normal (ex_go ?_)
      refine cd_region ?_
      refine at_pure (pv_move rfl) rfl ?_
      refine at_pure (by first | exact pv_add_n rfl rfl (by unfold In64; omega) | exact pv_add rfl rfl) rfl ?_
      refine at_pure (pv_assign rfl) rfl ?_
      refine at_nil ?_
      exact ex_meet (k + 1, o + z) ⟨⟨by dsimp only; omega, fold_step hq hz rfl, by dsimp only; omega, by dsimp only; omega⟩, by dsimp only; omega⟩ ⟨rfl, rfl, rfl, rfl, rfl, trivial⟩ (by repeat first | exact sLn _ | apply sLc | apply sLd)
    · skip
      refine cd_exit ?_
      refine ex_then_exit (ex_then_exit (ex_in (ex_go ?_)))
      refine cd_seq ?_
      have hc64 : cs.length ≤ 64 := by have := hvf.1; omega
      have hcb := critS_bound ns ls cs
      have hmb := mul_bound (x := wk - 1) (y := critS ns ls cs) (by omega) hcb
      have hsum : sumS cs = o := fold_end hq (by simp at hlt; omega)
      refine cd_region ?_
      refine at_pure (pv_move rfl) rfl ?_
      refine at_pure (pv_move rfl) rfl ?_
      refine at_pure (by first | exact pv_sub_n rfl rfl (by unfold In64; omega) | exact pv_sub rfl rfl) rfl ?_
      refine at_pure (by exact pv_loads_box ag_28 rfl .z (.take (.take .done))) rfl ?_
      refine at_pure (pv_move rfl) rfl ?_
      refine at_does (does_val cal29 rfl rfl rfl (fun w hs => critical_ref a b ca cb ns ls c cc cs w (hn.at' hs) (hl.at' hs) (hc.at' hs))) rfl (fun _ => ?_)
      refine at_pure (by first | exact pv_mul_n rfl rfl (by unfold In64; omega) | exact pv_mul rfl rfl) rfl ?_
      refine at_pure (by first | exact pv_add_n rfl rfl (by unfold In64; omega) | exact pv_add rfl rfl) rfl ?_
      refine at_pure (pv_move rfl) rfl ?_
      refine at_pure (by first | exact pv_quo_n rfl rfl (by omega) | exact pv_quo rfl rfl (by first | decide | omega)) rfl ?_
      refine at_pure (pv_assign rfl) rfl ?_
      refine at_nil ?_
      refine ex_go ?_
      refine cd_ret ?_
      exact end_ret1 rfl rfl (fun w hs => ⟨by clear hs; refine congrArg (fun b => Ending.returned (.int .i64 b)) ?_; unfold boundS; first | (rw [show problemS ns ls cs wk = false by simpa using hb1]; rfl) | (rw [hp, hsum]; rfl), hs.keep⟩)

end Go.Proofs.Ytkejdfnpbkdllaa
