/- The schedule: the longest path of a problem. -/
import Derived.Test.YtkejdfnpbkdllaaF25
import Derived.Test.YtkejdfnpbkdllaaSch2
set_option linter.unusedVariables false
set_option linter.unusedSimpArgs false
set_option maxRecDepth 20000
namespace Go.Proofs.Ytkejdfnpbkdllaa
open Go Go.RowKit Go.Proofs.YtkejdfnpbkdllaaV
theorem read_no (a b : Option Addr) (ca cb : Nat) (ns ls : List Q4) (c : Option Addr) (cc : Nat) (cs : List Int) (wk : Int) (w : World) (hn : Sl [] enc4 4 w a ca ns) (hl : Sl [] enc4 4 w b cb ls) (hc : Sl [] enc1 1 w c cc cs) (hp : problemS ns ls cs wk = false) : Calls Try.prog 43 [.agg #[.slice a ns.length ca, .slice b ls.length cb], .slice c cs.length cc, .int .i64 wk].toArray w (Val (.tuple #[.pointer none, .bool false]) w) := by
  refine calls_body (n := 133) Try.func43 rfl rfl rfl (St.init _ []) ?_
  refine cd_seq ?_
  refine cd_region ?_
  refine at_does (does_box rfl .agg (fun _ => .nil)) rfl (fun g1 => ?_)
  refine at_pure (pv_assign rfl) rfl ?_
  refine at_pure (pv_assign rfl) rfl ?_
  refine at_nil ?_
  refine ex_go ?_
  refine cd_seq ?_
  refine cd_region ?_
  refine at_pure (pv_assign rfl) rfl ?_
  refine at_nil ?_
  refine ex_go ?_
  refine cd_seq ?_
  refine cd_seq ?_
  refine cd_region ?_
  refine at_pure (by exact pv_loads_box ag_28 rfl .z (.take (.take .done))) rfl ?_
  refine at_does (does_val cal54 rfl rfl rfl (fun w hs => valid_go a b ca cb ns ls w (hn.at' hs) (hl.at' hs))) rfl (fun _ => ?_)
  refine at_pure (pv_not rfl) rfl ?_
  refine at_pure (pv_move rfl) rfl ?_
  refine at_split 22 rfl (fun hb1 => ?_) (fun hb1 => ?_)
  · skip
    refine at_skip rfl rfl hb1 rfl ?_
    refine at_skip rfl rfl hb1 rfl ?_
    refine at_skip rfl rfl hb1 rfl ?_
    refine at_skip rfl rfl hb1 rfl ?_
    refine at_skip rfl rfl hb1 rfl ?_
    refine at_skip rfl rfl hb1 rfl ?_
    refine at_pure (pv_pick_t rfl hb1 rfl) rfl ?_
    refine at_pure (pv_move rfl) rfl ?_
    refine at_skip rfl rfl rfl rfl ?_
    refine at_skip rfl rfl rfl rfl ?_
    refine at_skip rfl rfl rfl rfl ?_
    refine at_pure (pv_pick_t rfl rfl rfl) rfl ?_
    refine at_pure (pv_move rfl) rfl ?_
    refine at_skip rfl rfl rfl rfl ?_
    refine at_skip rfl rfl rfl rfl ?_
    refine at_pure (pv_pick_t rfl rfl rfl) rfl ?_
    refine at_pure (pv_move rfl) rfl ?_
    refine at_skip rfl rfl rfl rfl ?_
    refine at_skip rfl rfl rfl rfl ?_
    refine at_pure (pv_pick_t rfl rfl rfl) rfl ?_
    refine at_nil ?_
    refine ex_go ?_
    refine cd_then rfl rfl ?_
    refine cd_seq ?_
    refine cd_region ?_
    refine at_pure (pv_assign rfl) rfl ?_
    refine at_pure (pv_assign rfl) rfl ?_
    refine at_nil ?_
    refine ex_go ?_
    refine cd_ret ?_
    refine ex_then_ret ?_
    exact end_ret2 rfl rfl rfl (fun w hs => Val.mk hs)
  · skip
    refine at_pure_g rfl rfl hb1 (pv_move rfl) rfl ?_
    refine at_pure_g rfl rfl hb1 (pv_len Try.underlying22 rfl) rfl ?_
    refine at_pure_g rfl rfl hb1 (pv_field0 fa_28_0 rfl (r := 0) rfl) rfl ?_
    refine at_pure_g rfl rfl hb1 (by exact pv_load ld_25 rfl (box_cell .z .z)) rfl ?_
    refine at_pure_g rfl rfl hb1 (pv_len Try.underlying25 rfl) rfl ?_
    refine at_pure_g rfl rfl hb1 (pv_neq rfl rfl) rfl ?_
    refine at_pure (pv_pick_f rfl hb1 rfl) rfl ?_
    refine at_pure (pv_move rfl) rfl ?_
    refine at_split 30 rfl (fun hb2 => ?_) (fun hb2 => ?_)
    · skip
      refine at_skip rfl rfl hb2 rfl ?_
      refine at_skip rfl rfl hb2 rfl ?_
      refine at_skip rfl rfl hb2 rfl ?_
      refine at_pure (pv_pick_t rfl hb2 rfl) rfl ?_
      refine at_pure (pv_move rfl) rfl ?_
      refine at_skip rfl rfl rfl rfl ?_
      refine at_skip rfl rfl rfl rfl ?_
      refine at_pure (pv_pick_t rfl rfl rfl) rfl ?_
      refine at_pure (pv_move rfl) rfl ?_
      refine at_skip rfl rfl rfl rfl ?_
      refine at_skip rfl rfl rfl rfl ?_
      refine at_pure (pv_pick_t rfl rfl rfl) rfl ?_
      refine at_nil ?_
      refine ex_go ?_
      refine cd_then rfl rfl ?_
      refine cd_seq ?_
      refine cd_region ?_
      refine at_pure (pv_assign rfl) rfl ?_
      refine at_pure (pv_assign rfl) rfl ?_
      refine at_nil ?_
      refine ex_go ?_
      refine cd_ret ?_
      refine ex_then_ret ?_
      exact end_ret2 rfl rfl rfl (fun w hs => Val.mk hs)
    · skip
      refine at_pure_g rfl rfl hb2 (pv_move rfl) rfl ?_
      refine at_pure_g rfl rfl hb2 (pv_move rfl) rfl ?_
      refine at_does_g rfl rfl hb2 (does_val (v := .bool (cs.any fun x => !costB x)) cal55 rfl rfl rfl (fun w hs => contains_ints c cc cs (fun x => !costB x) 70 #[] #[] w (hc.at' hs) cal70 (fun z hz w' k => wrong70 z w'))) rfl (fun _ => ?_)
      refine at_pure (pv_pick_f rfl hb2 rfl) rfl ?_
      refine at_pure (pv_move rfl) rfl ?_
      refine at_split 35 rfl (fun hb3 => ?_) (fun hb3 => ?_)
      · skip
        refine at_skip rfl rfl hb3 rfl ?_
        refine at_skip rfl rfl hb3 rfl ?_
        refine at_pure (pv_pick_t rfl hb3 rfl) rfl ?_
        refine at_pure (pv_move rfl) rfl ?_
        refine at_skip rfl rfl rfl rfl ?_
        refine at_skip rfl rfl rfl rfl ?_
        refine at_pure (pv_pick_t rfl rfl rfl) rfl ?_
        refine at_nil ?_
        refine ex_go ?_
        refine cd_then rfl rfl ?_
        refine cd_seq ?_
        refine cd_region ?_
        refine at_pure (pv_assign rfl) rfl ?_
        refine at_pure (pv_assign rfl) rfl ?_
        refine at_nil ?_
        refine ex_go ?_
        refine cd_ret ?_
        refine ex_then_ret ?_
        exact end_ret2 rfl rfl rfl (fun w hs => Val.mk hs)
      · skip
        refine at_pure_g rfl rfl hb3 (pv_move rfl) rfl ?_
        refine at_pure_g rfl rfl hb3 (pv_lss rfl rfl) rfl ?_
        refine at_pure (pv_pick_f rfl hb3 rfl) rfl ?_
        refine at_pure (pv_move rfl) rfl ?_
        refine at_split 39 rfl (fun hb4 => ?_) (fun hb4 => ?_)
        · skip
          refine at_skip rfl rfl hb4 rfl ?_
          refine at_skip rfl rfl hb4 rfl ?_
          refine at_pure (pv_pick_t rfl hb4 rfl) rfl ?_
          refine at_nil ?_
          refine ex_go ?_
          refine cd_then rfl rfl ?_
          refine cd_seq ?_
          refine cd_region ?_
          refine at_pure (pv_assign rfl) rfl ?_
          refine at_pure (pv_assign rfl) rfl ?_
          refine at_nil ?_
          refine ex_go ?_
          refine cd_ret ?_
          refine ex_then_ret ?_
          exact end_ret2 rfl rfl rfl (fun w hs => Val.mk hs)
        · skip
          refine at_pure_g rfl rfl hb4 (pv_move rfl) rfl ?_
          refine at_pure_g rfl rfl hb4 (pv_gtr rfl rfl) rfl ?_
          refine at_pure (pv_pick_f rfl hb4 rfl) rfl ?_
          refine at_nil ?_
          refine ex_go ?_
          refine cd_if rfl (fun hb5 => ?_) (fun hb5 => ?_)
          · skip
            refine cd_seq ?_
            refine cd_region ?_
            refine at_pure (pv_assign rfl) rfl ?_
            refine at_pure (pv_assign rfl) rfl ?_
            refine at_nil ?_
            refine ex_go ?_
            refine cd_ret ?_
            refine ex_then_ret ?_
            exact end_ret2 rfl rfl rfl (fun w hs => Val.mk hs)
          · exact absurd hp (by rw [prob_yes (by simpa using hb1) (bne_f hb2) (by simpa using hb4) (by simpa using hb5) (by simpa using any_all hb3)]; simp)

def maxOf (sums : List Int) (b p : Int) : Int := maxI b (at1 sums p.toNat)
theorem befS_rows (ns ls : List Q4) (sums : List Int) (z : Int) : befS ns ls sums z = (befRow ns ls z).foldl (maxOf sums) 0 := by
  unfold befS befRow linksTo
  rw [List.foldl_map, List.foldl_filter]
  congr 1
  funext b l
  unfold befF maxOf
  cases l.2.2.1 == z <;> rfl
theorem at1_set {xs : List Int} {i j : Nat} {v : Int} (h : i < xs.length) : at1 (xs.set i v) j = if i = j then v else at1 xs j := by
  unfold at1
  rw [List.getD_eq_getElem?_getD, List.getD_eq_getElem?_getD, List.getElem?_set]
  split
  · rename_i e; subst e; simp [h]
  · rfl
theorem set_at1 {xs : List Int} {i : Nat} (h : i < xs.length) (h0 : at1 xs i = 0) : xs.set i 0 = xs := by
  have e := at1_get h
  rw [h0] at e
  exact set_same e
theorem not_before {ns ls : List Q4} {k : Nat} {z : Int} (hg : Good ns ls (orderS ns ls)) (hz : (orderS ns ls)[k]? = some z) {l : Q4} (hl : l ∈ ls) (he : l.2.2.1 = z) : l.1 ≠ z ∧ l.1 ∈ ids ns := by
  have hp := hg.pre k z hz l hl he
  refine ⟨fun e => ?_, hg.sub _ (List.mem_of_mem_take hp)⟩
  rw [e] at hp
  obtain ⟨j, hj⟩ := List.getElem?_of_mem hp
  rw [List.getElem?_take] at hj
  split at hj
  · rename_i hjk
    have h1 := (List.getElem?_eq_some_iff.1 hj)
    have h2 := (List.getElem?_eq_some_iff.1 hz)
    have := List.pairwise_iff_getElem.1 hg.nd j k h1.1 h2.1 hjk
    rw [h1.2, h2.2] at this
    exact this rfl
  · cases hj
theorem bef_row_get {ns ls : List Q4} {k j : Nat} {z x : Int} (hg : Good ns ls (orderS ns ls)) (hz : (orderS ns ls)[k]? = some z) (hx : (befRow ns ls z)[j]? = some x) : 0 ≤ x ∧ x < ns.length ∧ x ≠ placeI ns z := by
  have hm := List.mem_of_getElem? hx
  unfold befRow linksTo at hm
  obtain ⟨l, hl, rfl⟩ := List.mem_map.1 hm
  rw [List.mem_filter, beq_iff_eq] at hl
  have h1 := not_before hg hz hl.1 hl.2
  have h2 := place_in h1.2
  exact ⟨h2.1, h2.2, fun e => h1.1 (place_inj h2.1 e)⟩
/-- What lies behind has not been touched. -/
def Clean (ns ls : List Q4) (k : Nat) (sums : List Int) : Prop := ∀ i ∈ (orderS ns ls).drop k, at1 sums (placeI ns i).toNat = 0
theorem Clean.at {ns ls : List Q4} {k : Nat} {sums : List Int} {z : Int} (h : Clean ns ls k sums) (hz : (orderS ns ls)[k]? = some z) : at1 sums (placeI ns z).toNat = 0 := h z (by rw [drop_of hz]; simp)
theorem Clean.step {ns ls : List Q4} {k : Nat} {sums : List Int} {z v : Int} (hg : Good ns ls (orderS ns ls)) (h : Clean ns ls k sums) (hz : (orderS ns ls)[k]? = some z) (hl : sums.length = ns.length) : Clean ns ls (k + 1) (sums.set (placeI ns z).toNat v) := fun i hi => by
  have hzi := place_in (hg.sub z (List.mem_of_getElem? hz))
  have hii := place_in (hg.sub i (List.mem_of_mem_drop hi))
  have hne : z ≠ i := fun e => by
    have hd := hg.nd
    rw [← List.take_append_drop k (orderS ns ls), drop_of hz] at hd
    have := (List.nodup_append.1 hd).2.1
    rw [List.nodup_cons] at this
    exact this.1 (e ▸ hi)
  rw [at1_set (by omega), if_neg (fun e => hne (place_inj (ns := ns) hzi.1 (by omega)))]
  exact h i (by rw [drop_of hz]; exact List.mem_cons_of_mem _ hi)

set_option maxRecDepth 10000 in
set_option maxHeartbeats 3000000 in
theorem critical_go (a b : Option Addr) (ca cb : Nat) (ns ls : List Q4) (c : Option Addr) (cc : Nat) (cs : List Int) (p : PZ) (w : World) (hn : Sl [] enc4 4 w a ca ns) (hpx : w.heap[p.gp]? = some (.cells ([.slice a ns.length ca, .slice b ls.length cb, .slice c cs.length cc, .map (some p.gm), .slice p.oa (placesO ns ls).length p.oc, .slice (some ⟨p.gb, 0, none⟩) ns.length ns.length] : List Value).toArray 90 (0, 0))) (ho : Sl [] enc1 1 w p.oa p.oc (placesO ns ls)) (hbf : Sl [] encH 1 w (some ⟨p.gb, 0, none⟩) ns.length p.hds) (hrows : ∀ h ∈ p.hds, Sl [] enc1 1 w h.1 h.2.1 h.2.2) (hok : PbOk ns ls p) (hc : Sl [] enc1 1 w c cc cs) (hp : problemS ns ls cs 1 = true) : Calls Try.prog 51 [.pointer (some ⟨p.gp, 0, none⟩)].toArray w (Val (.int .i64 (critS ns ls cs)) w) := by
  have hpo := prob_of hp
  have hvf := valid_facts hpo.1
  have hvg := (valid_iff ns ls).1 hpo.1
  have hgo := (good_order ls hvg.nd).1
  refine calls_body (n := 71) Try.func51 rfl rfl rfl (St.init _ []) ?_
  refine cd_seq ?_
  refine cd_region ?_
  refine at_pure (pv_assign rfl) rfl ?_
  refine at_nil ?_
  refine ex_go ?_
  refine cd_seq ?_
  refine cd_region ?_
  refine at_pure (pv_move rfl) rfl ?_
  refine at_pure (pv_nilCheck rfl) rfl ?_
  refine at_pure (pv_field0 fa_90_0 rfl (r := 0) rfl) rfl ?_
  refine at_pure (pv_field0 fa_28_0 rfl (r := 0) rfl) rfl ?_
  refine at_pure (pv_load ld_25 rfl (old_cell (cell_of_block hpx rfl) (by simp))) rfl ?_
  refine at_pure (pv_len Try.underlying25 rfl) rfl ?_
  refine at_does (does_make (enc := enc1) (z0 := (0 : Int)) (v0 := .int .i64 0) rfl Try.underlying22 mk_3 (by decide) rfl rfl (by omega) (fun _ => .nil)) rfl (fun gs => ?_)
  refine at_pure (pv_assign rfl) rfl ?_
  refine at_nil ?_
  refine ex_go ?_
  refine cd_seq ?_
  refine cd_region ?_
  refine at_pure (pv_assign rfl) rfl ?_
  refine at_nil ?_
  refine ex_go ?_
  refine cd_seq ?_
  refine cd_seq ?_
  refine cd_region ?_
  refine at_pure (pv_move rfl) rfl ?_
  refine at_pure (pv_nilCheck rfl) rfl ?_
  refine at_pure (pv_field0 fa_90_3 rfl (r := 4) rfl) rfl ?_
  refine at_pure (pv_load ld_22 rfl (old_cell (cell_of_block hpx rfl) (by simp))) rfl ?_
  refine at_pure (pv_len Try.underlying22 rfl) rfl ?_
  refine at_pure (pv_move rfl) rfl ?_
  refine at_nil ?_
  refine ex_go ?_
  refine cd_block ?_
  refine cd_loop (σ := Nat × List Int × Int) (fun s => [(0, .pointer (some ⟨p.gp, 0, none⟩)), (3, .slice (some ⟨gs, 0, none⟩) ns.length ns.length), (4, .int .i64 s.2.2), (19, .slice p.oa (placesO ns ls).length p.oc), (20, .int .i64 (placesO ns ls).length), (21, .int .i64 (s.1 : Int))]) (fun s => [RowP enc1 1 3 (some ⟨gs, 0, none⟩) ns.length s.2.1]) (fun s => s.1 ≤ (orderS ns ls).length ∧ s.2.1.length = ns.length ∧ (orderS ns ls).foldl (critF ns ls cs) (List.replicate ns.length 0, 0) = ((orderS ns ls).drop s.1).foldl (critF ns ls cs) s.2 ∧ (∀ x ∈ s.2.1, 0 ≤ x ∧ x ≤ (s.1 : Int) * 1099511627776) ∧ (0 ≤ s.2.2 ∧ s.2.2 ≤ (s.1 : Int) * 1099511627776) ∧ Clean ns ls s.1 s.2.1) (fun s => (orderS ns ls).length - s.1) (0, List.replicate ns.length 0, 0) ⟨Nat.zero_le _, by simp, rfl, by intro x hx; simp at hx; simp [hx.2], by simp, fun i hi => by unfold at1; rw [List.getD_eq_getElem?_getD, List.getElem?_replicate]; split <;> rfl⟩ ⟨rfl, rfl, rfl, rfl, rfl, rfl, trivial⟩ (by repeat first | exact sLn _ | apply sLc | apply sLd) ?_
  rintro ⟨k, sums, most⟩ ⟨hk, hsl, hq, hsb, hmb, hcl⟩
  dsimp only at hk hsl hq hsb hmb hcl ⊢
  have hk64 : k ≤ 64 := by have := hvf.1; have := hvf.2.2.2.2; omega
  refine cd_seq ?_
  refine cd_region ?_
  refine at_pure (pv_lss rfl rfl) rfl ?_
  refine at_nil ?_
  refine ex_go ?_
  refine cd_seq ?_
  refine cd_if rfl (fun hlt => ?_) (fun hlt => ?_)
  · skip
    refine cd_skip ?_
    refine ex_go ?_
    refine cd_seq ?_
    refine cd_block ?_
    refine cd_seq ?_
    have hkl : k < (orderS ns ls).length := by simp only [decide_eq_true_eq] at hlt; unfold placesO at hlt; rw [List.length_map] at hlt; omega
    obtain ⟨z, hz⟩ := get_of hkl
    have hzo : (placesO ns ls)[k]? = some (placeI ns z) := by unfold placesO; rw [List.getElem?_map, hz]; rfl
    have hzi : z ∈ ids ns := hgo.sub z (List.mem_of_getElem? hz)
    have hpl := place_in hzi
    obtain ⟨yy, hyy, hyy2⟩ := place_get hpl.1
    obtain ⟨hh, hhk⟩ := get_of (xs := p.hds) (k := (placeI ns z).toNat) (by rw [hok.bef.1]; omega)
    have hrow := hrows hh (List.mem_of_getElem? hhk)
    have hrl : hh.2.2 = befRow ns ls z := by rw [hok.bef.2 _ hh yy hhk hyy, hyy2]
    have hset0 := set_at1 (xs := sums) (i := (placeI ns z).toNat) (by omega) (hcl.at hz)
    have hhlen := hok.bef.1
    refine cd_region ?_
    refine at_pure (pv_ix Try.underlying22 cz_3 rfl rfl (by first | omega | (simp only [decide_eq_true_eq, decide_eq_false_iff_not] at *; omega)) ho.real (k := k) (by omega)) rfl ?_
    refine at_pure (pv_elem0 ld_3 rfl (ho.get hzo .z)) rfl ?_
    refine at_pure (pv_assign rfl) rfl ?_
    refine at_nil ?_
    refine ex_go ?_
    refine cd_seq ?_
    refine cd_seq ?_
    refine cd_region ?_
    refine at_pure (pv_move rfl) rfl ?_
    refine at_pure (pv_nilCheck rfl) rfl ?_
    refine at_pure (pv_field0 fa_90_4 rfl (r := 5) rfl) rfl ?_
    refine at_pure (pv_load ld_47 rfl (old_cell (cell_of_block hpx rfl) (by simp))) rfl ?_
    refine at_pure (pv_move rfl) rfl ?_
    refine at_pure (pv_ix Try.underlying47 cz_22 rfl rfl (by first | omega | (simp only [decide_eq_true_eq, decide_eq_false_iff_not] at *; omega)) (.inr rfl) (k := (placeI ns z).toNat) (by omega)) rfl ?_
    refine at_pure (pv_elem0 ld_22 rfl (hbf.get hhk .z)) rfl ?_
    refine at_pure (pv_len Try.underlying22 rfl) rfl ?_
    refine at_pure (pv_move rfl) rfl ?_
    refine at_nil ?_
    refine ex_go ?_
    refine cd_block ?_
    refine cd_loop (σ := Nat × Int) (fun s => [(0, .pointer (some ⟨p.gp, 0, none⟩)), (3, .slice (some ⟨gs, 0, none⟩) ns.length ns.length), (4, .int .i64 most), (6, .int .i64 (placeI ns z)), (19, .slice p.oa (placesO ns ls).length p.oc), (20, .int .i64 (placesO ns ls).length), (21, .int .i64 (k : Int)), (31, .slice hh.1 hh.2.2.length hh.2.1), (32, .int .i64 hh.2.2.length), (33, .int .i64 (s.1 : Int))]) (fun s => [RowP enc1 1 3 (some ⟨gs, 0, none⟩) ns.length (sums.set (placeI ns z).toNat s.2)]) (fun s => s.1 ≤ hh.2.2.length ∧ hh.2.2.foldl (maxOf sums) 0 = (hh.2.2.drop s.1).foldl (maxOf sums) s.2 ∧ 0 ≤ s.2 ∧ s.2 ≤ (k : Int) * 1099511627776) (fun s => hh.2.2.length - s.1) (0, 0) ⟨Nat.zero_le _, rfl, by simp, by dsimp only; omega⟩ ⟨rfl, rfl, rfl, rfl, rfl, rfl, rfl, rfl, rfl, rfl, trivial⟩ (by dsimp only; rw [hset0]; repeat first | exact sLn _ | apply sLc | apply sLd) ?_
    rintro ⟨j, b'⟩ ⟨hj, hq2, hb0, hb1'⟩
    dsimp only at hj hq2 hb0 hb1' ⊢
    refine cd_seq ?_
    refine cd_region ?_
    refine at_pure (pv_lss rfl rfl) rfl ?_
    refine at_nil ?_
    refine ex_go ?_
    refine cd_seq ?_
    refine cd_if rfl (fun hlt2 => ?_) (fun hlt2 => ?_)
    · have hjl : j < hh.2.2.length := by simpa using hlt2
      obtain ⟨x, hx⟩ := get_of hjl
      have hxb := bef_row_get hgo hz (by rw [← hrl]; exact hx)
      have hsm := hrow.sm
      have hax := at1_bound (k := x.toNat) hsb (by omega)
      have hg1 : (sums.set (placeI ns z).toNat b')[(placeI ns z).toNat]? = some b' := List.getElem?_set_self (by omega)
      have hg2 : (sums.set (placeI ns z).toNat b')[x.toNat]? = some (at1 sums x.toNat) := by rw [List.getElem?_set_ne (by omega)]; exact at1_get (by omega)
      have hset1 : (sums.set (placeI ns z).toNat b').set (placeI ns z).toNat (maxI b' (at1 sums x.toNat)) = sums.set (placeI ns z).toNat (maxI b' (at1 sums x.toNat)) := List.set_set ..
      refine cd_skip ?_
      refine ex_go ?_
      refine cd_seq ?_
      refine cd_block ?_
      refine cd_seq ?_
      refine cd_region ?_
      refine at_pure (pv_ix Try.underlying22 cz_3 rfl rfl (by first | omega | (simp only [decide_eq_true_eq, decide_eq_false_iff_not] at *; omega)) hrow.real (k := j) (by omega)) rfl ?_
      refine at_pure (pv_elem0 ld_3 rfl (hrow.get hx .z)) rfl ?_
      refine at_pure (pv_assign rfl) rfl ?_
      refine at_nil ?_
      refine ex_go ?_
      refine cd_draw' 12 follows ?_
      refine dr_take 0 rfl (by kernel_rfl) (.refl _) (pv_move rfl) rfl ?_
      refine dr_take 1 rfl (by kernel_rfl) (.refl _) (pv_move rfl) rfl ?_
      refine dr_take 2 rfl (by kernel_rfl) (.refl _) (pv_move rfl) rfl ?_
      refine dr_take 3 rfl (by kernel_rfl) (.refl _) (pv_move rfl) rfl ?_
      refine dr_take 4 rfl (by kernel_rfl) (.refl _) (pv_ix Try.underlying22 cz_3 rfl rfl (by first | omega | (simp only [decide_eq_true_eq, decide_eq_false_iff_not] at *; omega)) (.inr rfl) (k := (placeI ns z).toNat) (by omega)) rfl ?_
      refine dr_take 5 rfl (by kernel_rfl) (.refl _) (pv_elem0 ld_3 rfl (RowP.get len1 (by decide) .z hg1 .z)) rfl ?_
      refine dr_take 6 rfl (by kernel_rfl) (.refl _) (pv_move rfl) rfl ?_
      refine dr_take 7 rfl (by kernel_rfl) (.refl _) (pv_move rfl) rfl ?_
      refine dr_take 8 rfl (by kernel_rfl) (.refl _) (pv_ix Try.underlying22 cz_3 rfl rfl (by first | omega | (simp only [decide_eq_true_eq, decide_eq_false_iff_not] at *; omega)) (.inr rfl) (k := x.toNat) (by omega)) rfl ?_
      refine dr_take 9 rfl (by kernel_rfl) (.refl _) (pv_elem0 ld_3 rfl (RowP.get len1 (by decide) .z hg2 .z)) rfl ?_
      refine dr_take 10 rfl (by kernel_rfl) (.refl _) (pv_max rfl rfl) rfl ?_
      refine dr_take 11 rfl (by kernel_rfl) (.refl _) (pv_ix Try.underlying22 cz_3 rfl rfl (by first | omega | (simp only [decide_eq_true_eq, decide_eq_false_iff_not] at *; omega)) (.inr rfl) (k := (placeI ns z).toNat) (by omega)) rfl ?_
      refine dr_one 12 (by kernel_rfl) rfl ?_
      refine at_turns (by exact turns_put (z' := maxI b' (at1 sums x.toNat)) (k := (placeI ns z).toNat) (q := 0) len1 sz_3 rfl rfl rfl (.one rfl) rfl rfl .z hg1 rfl (Nat.le_of_ble_eq_true rfl) .z) ?_
      refine at_nil (dr_next (fun h => by cases h) ?_)
      refine dr_done (by kernel_rfl) ?_
      refine ex_in_normal (ex_go ?_)
      refine cd_region ?_
      refine at_pure (by first | exact pv_add_n rfl rfl (by unfold In64; omega) | exact pv_add rfl rfl) rfl ?_
      refine at_pure (pv_move rfl) rfl ?_
      refine at_nil ?_
      exact ex_meet (j + 1, maxI b' (at1 sums x.toNat)) ⟨⟨by dsimp only; omega, fold_step hq2 hx rfl, by dsimp only; unfold maxI; split <;> omega, by dsimp only; unfold maxI; split <;> omega⟩, by dsimp only; omega⟩ ⟨rfl, rfl, rfl, rfl, rfl, rfl, rfl, rfl, rfl, rfl, trivial⟩ (by dsimp only; rw [← hset1]; repeat first | exact sLn _ | apply sLc | apply sLd)
    · have hbe : befS ns ls sums z = b' := by rw [befS_rows, ← hrl]; exact fold_end hq2 (by simp at hlt2; omega)
      have hg1 : (sums.set (placeI ns z).toNat b')[(placeI ns z).toNat]? = some b' := List.getElem?_set_self (by omega)
      have hac := at1_get (xs := cs) (k := (placeI ns z).toNat) (by omega)
      have hacb := at1_bound (k := (placeI ns z).toNat) hpo.2.2.2.2 (by omega)
      have hg3 : ((sums.set (placeI ns z).toNat b').set (placeI ns z).toNat (b' + at1 cs (placeI ns z).toNat))[(placeI ns z).toNat]? = some (b' + at1 cs (placeI ns z).toNat) := List.getElem?_set_self (by rw [List.length_set]; omega)
      have hset2 : (sums.set (placeI ns z).toNat b').set (placeI ns z).toNat (b' + at1 cs (placeI ns z).toNat) = sums.set (placeI ns z).toNat (b' + at1 cs (placeI ns z).toNat) := List.set_set ..
      refine cd_exit ?_
      refine ex_then_exit (ex_then_exit (ex_in (ex_go ?_)))
      refine cd_seq ?_
      refine cd_draw' 13 follows ?_
      refine dr_take 0 rfl (by kernel_rfl) (.refl _) (pv_move rfl) rfl ?_
      refine dr_take 1 rfl (by kernel_rfl) (.refl _) (pv_move rfl) rfl ?_
      refine dr_take 2 rfl (by kernel_rfl) (.refl _) (pv_ix Try.underlying22 cz_3 rfl rfl (by first | omega | (simp only [decide_eq_true_eq, decide_eq_false_iff_not] at *; omega)) (.inr rfl) (k := (placeI ns z).toNat) (by omega)) rfl ?_
      refine dr_take 3 rfl (by kernel_rfl) (.refl _) (pv_elem0 ld_3 rfl (RowP.get len1 (by decide) .z hg1 .z)) rfl ?_
      refine dr_take 4 rfl (by kernel_rfl) (.refl _) (pv_move rfl) rfl ?_
      refine dr_take 5 rfl (by kernel_rfl) (.refl _) (pv_nilCheck rfl) rfl ?_
      refine dr_take 6 rfl (by kernel_rfl) (.refl _) (pv_field0 fa_90_1 rfl (r := 2) rfl) rfl ?_
      refine dr_take 7 rfl (by kernel_rfl) (.refl _) (pv_load ld_22 rfl (old_cell (cell_of_block hpx rfl) (by simp))) rfl ?_
      refine dr_take 8 rfl (by kernel_rfl) (.refl _) (pv_move rfl) rfl ?_
      refine dr_take 9 rfl (by kernel_rfl) (.refl _) (pv_ix Try.underlying22 cz_3 rfl rfl (by first | omega | (simp only [decide_eq_true_eq, decide_eq_false_iff_not] at *; omega)) hc.real (k := (placeI ns z).toNat) (by omega)) rfl ?_
      refine dr_take 10 rfl (by kernel_rfl) (.refl _) (pv_elem0 ld_3 rfl (hc.get hac .z)) rfl ?_
      refine dr_take 11 rfl (by kernel_rfl) (.refl _) (by first | exact pv_add_n rfl rfl (by unfold In64; omega) | exact pv_add rfl rfl) rfl ?_
      refine dr_take 12 rfl (by kernel_rfl) (.refl _) (pv_ix Try.underlying22 cz_3 rfl rfl (by first | omega | (simp only [decide_eq_true_eq, decide_eq_false_iff_not] at *; omega)) (.inr rfl) (k := (placeI ns z).toNat) (by omega)) rfl ?_
      refine dr_one 13 (by kernel_rfl) rfl ?_
      refine at_turns (by exact turns_put (z' := b' + at1 cs (placeI ns z).toNat) (k := (placeI ns z).toNat) (q := 0) len1 sz_3 rfl rfl rfl (.one rfl) rfl rfl .z hg1 rfl (Nat.le_of_ble_eq_true rfl) .z) ?_
      refine at_nil (dr_next (fun h => by cases h) ?_)
      refine dr_done (by kernel_rfl) ?_
      refine ex_go ?_
      refine cd_region ?_
      refine at_pure (pv_move rfl) rfl ?_
      refine at_pure (pv_move rfl) rfl ?_
      refine at_pure (pv_move rfl) rfl ?_
      refine at_pure (pv_ix Try.underlying22 cz_3 rfl rfl (by first | omega | (simp only [decide_eq_true_eq, decide_eq_false_iff_not] at *; omega)) (.inr rfl) (k := (placeI ns z).toNat) (by omega)) rfl ?_
      refine at_pure (pv_elem0 ld_3 rfl (RowP.get len1 (by decide) .z hg3 .z)) rfl ?_
      refine at_pure (pv_max rfl rfl) rfl ?_
      refine at_pure (pv_assign rfl) rfl ?_
      refine at_nil ?_
      refine ex_in_normal (ex_go ?_)
      refine cd_region ?_
      refine at_pure (by first | exact pv_add_n rfl rfl (by unfold In64; omega) | exact pv_add rfl rfl) rfl ?_
      refine at_pure (pv_move rfl) rfl ?_
      refine at_nil ?_
      exact ex_meet (k + 1, sums.set (placeI ns z).toNat (b' + at1 cs (placeI ns z).toNat), maxI most (b' + at1 cs (placeI ns z).toNat)) ⟨⟨by dsimp only; omega, by dsimp only; rw [List.length_set]; exact hsl, fold_step hq hz (by unfold critF; rw [hbe]), by dsimp only; intro x hx; rcases List.mem_or_eq_of_mem_set hx with hx | hx; have := hsb x hx; omega; omega, by dsimp only; unfold maxI; split <;> omega, hcl.step hgo hz hsl⟩, by dsimp only; omega⟩ ⟨rfl, rfl, rfl, rfl, rfl, rfl, trivial⟩ (by dsimp only; rw [← hset2]; repeat first | exact sLn _ | apply sLc | apply sLd)
  · skip
    refine cd_exit ?_
    refine ex_then_exit (ex_then_exit (ex_in (ex_go ?_)))
    refine cd_seq ?_
    refine cd_region ?_
    refine at_pure (pv_move rfl) rfl ?_
    refine at_pure (pv_assign rfl) rfl ?_
    refine at_nil ?_
    refine ex_go ?_
    refine cd_ret ?_
    exact end_ret1 rfl rfl (fun w hs => ⟨by clear hs; refine congrArg (fun b => Ending.returned (.int .i64 b)) ?_; unfold critS; rw [hp]; exact (congrArg Prod.snd (fold_end hq (by simp only [decide_eq_false_iff_not] at hlt; unfold placesO at hlt; rw [List.length_map] at hlt; omega))).symm, hs.keep⟩)

end Go.Proofs.Ytkejdfnpbkdllaa
