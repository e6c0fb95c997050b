/- The schedule: a problem is read. -/
import Derived.Test.YtkejdfnpbkdllaaF25
import Derived.Test.YtkejdfnpbkdllaaSch
set_option linter.unusedVariables false
set_option linter.unusedSimpArgs false
set_option maxRecDepth 20000
namespace Go.Proofs.Ytkejdfnpbkdllaa
open Go Go.RowKit Go.Proofs.YtkejdfnpbkdllaaV
theorem place_get {ns : List Q4} {i : Int} (h : 0 ≤ placeI ns i) : ∃ z, ns[(placeI ns i).toNat]? = some z ∧ z.1 = i := by
  unfold placeI at h ⊢
  obtain ⟨z, h1, h2⟩ := fIx_some (Int.le_refl _) h
  rw [Int.sub_zero] at h1
  exact ⟨z, h1, by simpa using h2⟩
theorem place_inj {ns : List Q4} {i j : Int} (hi : 0 ≤ placeI ns i) (h : placeI ns i = placeI ns j) : i = j := by
  obtain ⟨z, h1, h2⟩ := place_get hi
  obtain ⟨y, h3, h4⟩ := place_get (h ▸ hi)
  rw [h] at h1
  rw [h1] at h3
  cases h3
  rw [← h2, ← h4]
theorem ids_place {ns : List Q4} {i : Int} : i ∈ ids ns ↔ 0 ≤ placeI ns i := by
  constructor
  · intro h; exact (place_in h).1
  · intro h
    obtain ⟨z, h1, h2⟩ := place_get h
    exact List.mem_map.2 ⟨z, List.mem_of_getElem? h1, h2⟩
theorem place_at {ns : List Q4} (hN : (ids ns).Nodup) {k : Nat} {z : Q4} (hz : ns[k]? = some z) : placeI ns z.1 = k := by
  have hm : z.1 ∈ ids ns := List.mem_map.2 ⟨z, List.mem_of_getElem? hz, rfl⟩
  have hp := place_in hm
  obtain ⟨y, h1, h2⟩ := place_get hp.1
  have hk := (List.getElem?_eq_some_iff.1 hz).1
  rcases Nat.lt_trichotomy (placeI ns z.1).toNat k with h | h | h
  · have := List.pairwise_iff_getElem.1 (List.pairwise_map.1 hN) _ k (List.getElem?_eq_some_iff.1 h1).1 hk h
    rw [(List.getElem?_eq_some_iff.1 h1).2, (List.getElem?_eq_some_iff.1 hz).2] at this
    exact absurd h2 this
  · omega
  · have := List.pairwise_iff_getElem.1 (List.pairwise_map.1 hN) k _ hk (List.getElem?_eq_some_iff.1 h1).1 h
    rw [(List.getElem?_eq_some_iff.1 h1).2, (List.getElem?_eq_some_iff.1 hz).2] at this
    exact absurd h2.symm this

theorem place_lt (ns : List Q4) (i : Int) : placeI ns i = -1 ∨ (0 ≤ placeI ns i ∧ placeI ns i < ns.length) := by
  have := fIx_range (p := fun z : Q4 => z.1 == i) ns 0
  unfold placeI; omega
theorem any_all {ws : List Int} {b : Bool} (h : (ws.any fun x => !costB x) = b) : ws.all costB = !b := by
  rw [← h, List.all_eq_not_any_not]
theorem all_any {ws : List Int} (h : ws.all costB = true) : (ws.any fun x => !costB x) = false := by
  rw [List.all_eq_not_any_not] at h
  simpa using h
theorem wrong_eq {n : Int} (h : decide (n < 0) = false) : decide (1099511627776 < n) = !costB n := by
  simp only [decide_eq_false_iff_not] at h
  unfold costB
  rw [decide_eq_true (show 0 ≤ n by omega), Bool.eq_iff_iff]; simp
theorem valid_go_t {ns ls : List Q4} (hv : validS ns ls = true) (a b : Option Addr) (ca cb : Nat) (w : World) (hn : Sl [] enc4 4 w a ca ns) (hl : Sl [] enc4 4 w b cb ls) : Calls Try.prog 54 [.agg #[.slice a ns.length ca, .slice b ls.length cb]].toArray w (Val (.bool true) w) := by
  have h := valid_go a b ca cb ns ls w hn hl
  rwa [hv] at h
/-- The first k nodes' places. -/
def PMap (ns : List Q4) (k : Nat) (kv : List (Int × Int)) : Prop := ∀ i, mget kv i = if 0 ≤ placeI ns i ∧ placeI ns i < k then some (placeI ns i) else none
theorem PMap.step {ns : List Q4} {k : Nat} {kv : List (Int × Int)} (hN : (ids ns).Nodup) (h : PMap ns k kv) {z : Q4} (hz : ns[k]? = some z) : PMap ns (k + 1) (mset kv z.1 (k : Int)) := fun i => by
  have hp := place_at hN hz
  rw [mget_mset]
  by_cases e : z.1 = i
  · subst e
    rw [if_pos rfl, hp, if_pos (by omega)]
  · rw [if_neg e, h i]
    by_cases e1 : 0 ≤ placeI ns i ∧ placeI ns i < k
    · rw [if_pos e1, if_pos (by omega)]
    · rw [if_neg e1, if_neg]
      rintro ⟨h1, h2⟩
      exact e (place_inj (ns := ns) (by omega) (by omega))
theorem PMap.all {ns : List Q4} {kv : List (Int × Int)} (h : PMap ns ns.length kv) (i : Int) : mget kv i = if 0 ≤ placeI ns i then some (placeI ns i) else none := by
  rw [h i]
  have := place_lt ns i
  by_cases e : 0 ≤ placeI ns i
  · rw [if_pos e, if_pos (by omega)]
  · rw [if_neg e, if_neg (by omega)]
theorem pm_get {ns : List Q4} {kv : List (Int × Int)} (h : ∀ i, mget kv i = if 0 ≤ placeI ns i then some (placeI ns i) else none) {i : Int} (hi : 0 ≤ placeI ns i) : (mget kv i).getD 0 = placeI ns i := by rw [h, if_pos hi]; rfl
/-- The places of the nodes that a node waits for. -/
def befRow (ns ls : List Q4) (i : Int) : List Int := (linksTo i ls).map fun l => placeI ns l.1
def placesO (ns ls : List Q4) : List Int := (orderS ns ls).map (placeI ns)
def Befs (ns ls : List Q4) (hs : List (Hd Int)) : Prop := hs.length = ns.length ∧ ∀ (j : Nat) (h : Hd Int) (y : Q4), hs[j]? = some h → ns[j]? = some y → h.2.2 = befRow ns ls y.1
theorem Befs.start (ns : List Q4) : Befs ns [] (List.replicate ns.length (none, 0, [])) := ⟨by simp, fun j h y hh _ => by
  rw [List.getElem?_replicate] at hh
  split at hh
  · cases hh; rfl
  · cases hh⟩
theorem Befs.step {ns ls : List Q4} {hs : List (Hd Int)} {k : Nat} {z : Q4} {h : Hd Int} {a : Option Addr} {c : Nat} (hN : (ids ns).Nodup) (hb : Befs ns (ls.take k) hs) (hz : ls[k]? = some z) (hp : 0 ≤ placeI ns z.2.2.1) (hh : hs[(placeI ns z.2.2.1).toNat]? = some h) :
    Befs ns (ls.take (k + 1)) (hs.set (placeI ns z.2.2.1).toNat (a, c, h.2.2 ++ [placeI ns z.1])) := ⟨by rw [List.length_set]; exact hb.1, fun j h' y hj hy => by
  have hpy := place_at hN hy
  rw [List.getElem?_set] at hj
  unfold befRow
  split at hj
  · rename_i e
    split at hj
    · cases hj
      have hye : z.2.2.1 = y.1 := place_inj (ns := ns) hp (by omega)
      rw [linksTo_yes hz hye, List.map_append, hb.2 _ h y hh (by rw [e]; exact hy)]
      rfl
    · cases hj
  · rename_i e
    rw [linksTo_no hz (fun e2 => e (by rw [e2, hpy]; omega))]
    exact hb.2 j h' y hj hy⟩
structure PZ where
  gp : Nat
  gm : Nat
  gb : Nat
  oc : Nat
  oa : Option Addr
  pm : List (Int × Int)
  hds : List (Hd Int)
structure PbOk (ns ls : List Q4) (z : PZ) : Prop where
  pm : ∀ i, mget z.pm i = if 0 ≤ placeI ns i then some (placeI ns i) else none
  bef : Befs ns ls z.hds

theorem wrong70 (n : Int) (w : World) : Calls Try.prog 70 [.int .i64 n].toArray w (Val (.bool (!costB n)) w) := by
  refine calls_body (n := 9) Try.func70 rfl rfl rfl (St.init _ []) ?_
  refine cd_seq ?_
  refine cd_region ?_
  refine at_pure (pv_assign rfl) rfl ?_
  refine at_nil ?_
  refine ex_go ?_
  refine cd_seq ?_
  refine cd_region ?_
  refine at_pure (pv_move rfl) rfl ?_
  refine at_pure (pv_lss rfl rfl) rfl ?_
  refine at_pure (pv_move rfl) rfl ?_
  refine at_split 5 rfl (fun hb1 => ?_) (fun hb1 => ?_)
  · skip
    refine at_skip rfl rfl hb1 rfl ?_
    refine at_skip rfl rfl hb1 rfl ?_
    refine at_pure (pv_pick_t rfl hb1 rfl) rfl ?_
    refine at_pure (pv_assign rfl) rfl ?_
    refine at_nil ?_
    refine ex_go ?_
    refine cd_ret ?_
    exact end_ret1 rfl rfl (fun w hs => ⟨by clear hs; refine congrArg (fun b => Ending.returned (.bool b)) ?_; first | (rw [costB_no (x := n) (.inl (of_decide_eq_true hb1))]; rfl) | exact wrong_eq hb1, hs.keep⟩)
  · skip
    refine at_pure_g rfl rfl hb1 (pv_move rfl) rfl ?_
    refine at_pure_g rfl rfl hb1 (pv_gtr rfl rfl) rfl ?_
    refine at_pure (pv_pick_f rfl hb1 rfl) rfl ?_
    refine at_pure (pv_assign rfl) rfl ?_
    refine at_nil ?_
    refine ex_go ?_
    refine cd_ret ?_
    exact end_ret1 rfl rfl (fun w hs => ⟨by clear hs; refine congrArg (fun b => Ending.returned (.bool b)) ?_; first | (rw [costB_no (x := n) (.inl (of_decide_eq_true hb1))]; rfl) | exact wrong_eq hb1, hs.keep⟩)

set_option maxRecDepth 10000 in
set_option maxHeartbeats 4000000 in
theorem read_yes (a b : Option Addr) (ca cb : Nat) (ns ls : List Q4) (c : Option Addr) (cc : Nat) (cs : List Int) (wk : Int) (w : World) (hn : Sl [] enc4 4 w a ca ns) (hl : Sl [] enc4 4 w b cb ls) (hc : Sl [] enc1 1 w c cc cs) (hp : problemS ns ls cs wk = true) : Calls Try.prog 43 [.agg #[.slice a ns.length ca, .slice b ls.length cb], .slice c cs.length cc, .int .i64 wk].toArray w (Makes (fun z : PZ => .tuple #[.pointer (some ⟨z.gp, 0, none⟩), .bool true]) (fun z => [MapP fI z.gm z.pm, RowP encH 1 22 (some ⟨z.gb, 0, none⟩) ns.length z.hds, Box z.gp [.slice a ns.length ca, .slice b ls.length cb, .slice c cs.length cc, .map (some z.gm), .slice z.oa (placesO ns ls).length z.oc, .slice (some ⟨z.gb, 0, none⟩) ns.length ns.length] 90, RowP enc1 1 3 z.oa z.oc (placesO ns ls), RowsP enc1 1 3 z.hds]) (PbOk ns ls) w) := by
  have hpo := prob_of hp
  have hvf := valid_facts hpo.1
  have hvg := (valid_iff ns ls).1 hpo.1
  have hgo := (good_order ls hvg.nd).1
  have hcl := hpo.2.1
  have hany : (cs.any fun x => !costB x) = false := all_any (by have := hp; unfold problemS at this; simp only [Bool.and_eq_true] at this; exact this.2)
  have hwk := hpo.2.2
  refine calls_body (n := 133) Try.func43 rfl rfl rfl (St.init _ []) ?_
  refine cd_seq ?_
  refine cd_region ?_
  refine at_does (does_box rfl .agg (fun _ => .nil)) rfl (fun g1 => ?_)
  refine at_pure (pv_assign rfl) rfl ?_
  refine at_pure (pv_assign rfl) rfl ?_
  refine at_nil ?_
  refine ex_go ?_
  refine cd_seq ?_
  refine cd_region ?_
  refine at_pure (pv_assign rfl) rfl ?_
  refine at_nil ?_
  refine ex_go ?_
  refine cd_seq ?_
  refine cd_seq ?_
  refine cd_region ?_
  refine at_pure (by exact pv_loads_box ag_28 rfl .z (.take (.take .done))) rfl ?_
  refine at_does (does_val cal54 rfl rfl rfl (fun w hs => valid_go_t hpo.1 a b ca cb w (hn.at' hs) (hl.at' hs))) rfl (fun _ => ?_)
  refine at_pure (pv_not rfl) rfl ?_
  refine at_pure (pv_move rfl) rfl ?_
  refine at_pure_g rfl rfl rfl (pv_move rfl) rfl ?_
  refine at_pure_g rfl rfl rfl (pv_len Try.underlying22 rfl) rfl ?_
  refine at_pure_g rfl rfl rfl (pv_field0 fa_28_0 rfl (r := 0) rfl) rfl ?_
  refine at_pure_g rfl rfl rfl (by exact pv_load ld_25 rfl (box_cell .z .z)) rfl ?_
  refine at_pure_g rfl rfl rfl (pv_len Try.underlying25 rfl) rfl ?_
  refine at_pure_g rfl rfl rfl (pv_neq rfl rfl) rfl ?_
  refine at_pure (pv_pick_f rfl rfl rfl) rfl ?_
  refine at_pure (pv_move rfl) rfl ?_
  refine at_pure_g rfl rfl (by rw [hcl]; simp) (pv_move rfl) rfl ?_
  refine at_pure_g rfl rfl (by rw [hcl]; simp) (pv_move rfl) rfl ?_
  refine at_does_g rfl rfl (by rw [hcl]; simp) (does_val (v := .bool false) cal55 rfl rfl rfl (fun w hs => by have h9 := contains_ints c cc cs (fun x => !costB x) 70 #[] #[] w (hc.at' hs) cal70 (fun z hz w' k => wrong70 z w'); rw [hany] at h9; exact h9)) rfl (fun _ => ?_)
  refine at_pure (pv_pick_f rfl (by rw [hcl]; simp) rfl) rfl ?_
  refine at_pure (pv_move rfl) rfl ?_
  refine at_pure_g rfl rfl rfl (pv_move rfl) rfl ?_
  refine at_pure_g rfl rfl rfl (pv_lss rfl rfl) rfl ?_
  refine at_pure (pv_pick_f rfl rfl rfl) rfl ?_
  refine at_pure (pv_move rfl) rfl ?_
  refine at_pure_g rfl rfl (decide_eq_false (by omega)) (pv_move rfl) rfl ?_
  refine at_pure_g rfl rfl (decide_eq_false (by omega)) (pv_gtr rfl rfl) rfl ?_
  refine at_pure (pv_pick_f rfl (decide_eq_false (by omega)) rfl) rfl ?_
  refine at_nil ?_
  refine ex_go ?_
  refine cd_else rfl (decide_eq_false (by omega)) ?_
  refine cd_skip ?_
  refine ex_go ?_
  refine cd_cut (σ := Nat × Nat × Nat) (fun s => [(3, Value.pointer (some ⟨g1, 0, none⟩)), (9, Value.pointer (some ⟨s.1, 0, none⟩))]) (fun s => [Box g1 [.slice a ns.length ca, .slice b ls.length cb] 28, MapP fI s.2.1 [], RowP encH 1 22 (some ⟨s.2.2, 0, none⟩) ns.length (List.replicate ns.length ((none, 0, []) : Hd Int)), Box s.1 [.slice a ns.length ca, .slice b ls.length cb, .slice c cs.length cc, .map (some s.2.1), .slice none 0 0, .slice (some ⟨s.2.2, 0, none⟩) ns.length ns.length] 90]) (fun _ => True) ?_ ?_
  · skip
    refine cd_draw' 9 follows ?_
    refine dr_take 0 rfl (by kernel_rfl) (.refl _) (by exact pv_loads_box ag_28 rfl .z (.take (.take .done))) rfl ?_
    refine dr_take 1 rfl (by kernel_rfl) (.refl _) (pv_move rfl) rfl ?_
    refine dr_take 3 rfl (by kernel_rfl) (.refl _) (pv_field0 fa_28_0 rfl (r := 0) rfl) rfl ?_
    refine dr_take 4 rfl (by kernel_rfl) (.refl _) (by exact pv_load ld_25 rfl (box_cell .z .z)) rfl ?_
    refine dr_take 5 rfl (by kernel_rfl) (.refl _) (pv_len Try.underlying25 rfl) rfl ?_
    refine dr_two 2 6 (by kernel_rfl) rfl rfl ?_ ?_
    · skip
      refine at_does (does_makeMap fI (fun _ => (.cons .nil))) rfl (fun gm => ?_)
      refine at_nil (dr_next (fun _ => (by repeat first | exact sLn _ | apply sLc | apply sLd)) ?_)
      refine dr_one 6 (by kernel_rfl) rfl ?_
      refine at_does (does_make (enc := (encH (α := Int))) (z0 := ((none, 0, []) : Hd Int)) (v0 := .slice none 0 0) rfl Try.underlying47 mk_22 (by decide) rfl rfl (by omega) (fun _ => (.cons (.cons .nil)))) rfl (fun gb => ?_)
      refine at_nil (dr_next (fun _ => (by repeat first | exact sLn _ | apply sLc | apply sLd)) ?_)
      refine dr_take 7 rfl (by kernel_rfl) (by repeat first | exact sLn _ | apply sLc | apply sLd) (pv_build rfl (bu_90_0_1_2_4 _ _ _ _ _ _ _ _ _ _ _ _ _)) rfl ?_
      refine dr_one 8 (by kernel_rfl) rfl ?_
      refine at_does (does_box rfl .agg (fun _ => (.cons (.cons (.cons .nil))))) rfl (fun gp => ?_)
      refine at_nil (dr_next (fun _ => (by repeat first | exact sLn _ | apply sLc | apply sLd)) ?_)
      refine dr_one 9 (by kernel_rfl) rfl ?_
      refine at_pure (pv_assign rfl) rfl ?_
      refine at_nil (dr_next (fun h => by cases h) ?_)
      refine dr_done (by kernel_rfl) ?_
      first | exact ex_meet (gp, gm, gb) trivial ⟨rfl, rfl, trivial⟩ (List.Sublist.refl _) | exact ex_meet_p (gp, gm, gb) trivial ⟨rfl, rfl, trivial⟩ (.cons _ (.swap _ _ _)) (List.Sublist.refl _)
    · skip
      refine at_does (does_make (enc := (encH (α := Int))) (z0 := ((none, 0, []) : Hd Int)) (v0 := .slice none 0 0) rfl Try.underlying47 mk_22 (by decide) rfl rfl (by omega) (fun _ => (.cons .nil))) rfl (fun gb => ?_)
      refine at_nil (dr_next (fun _ => (by repeat first | exact sLn _ | apply sLc | apply sLd)) ?_)
      refine dr_one 2 (by kernel_rfl) rfl ?_
      refine at_does (does_makeMap fI (fun _ => (.cons (.cons .nil)))) rfl (fun gm => ?_)
      refine at_nil (dr_next (fun _ => (by repeat first | exact sLn _ | apply sLc | apply sLd)) ?_)
      refine dr_take 7 rfl (by kernel_rfl) (by repeat first | exact sLn _ | apply sLc | apply sLd) (pv_build rfl (bu_90_0_1_2_4 _ _ _ _ _ _ _ _ _ _ _ _ _)) rfl ?_
      refine dr_one 8 (by kernel_rfl) rfl ?_
      refine at_does (does_box rfl .agg (fun _ => (.cons (.cons (.cons .nil))))) rfl (fun gp => ?_)
      refine at_nil (dr_next (fun _ => (by repeat first | exact sLn _ | apply sLc | apply sLd)) ?_)
      refine dr_one 9 (by kernel_rfl) rfl ?_
      refine at_pure (pv_assign rfl) rfl ?_
      refine at_nil (dr_next (fun h => by cases h) ?_)
      refine dr_done (by kernel_rfl) ?_
      first | exact ex_meet (gp, gm, gb) trivial ⟨rfl, rfl, trivial⟩ (List.Sublist.refl _) | exact ex_meet_p (gp, gm, gb) trivial ⟨rfl, rfl, trivial⟩ (.cons _ (.swap _ _ _)) (List.Sublist.refl _)
  · rintro ⟨gp, gm, gb⟩ -
    refine cd_seq ?_
    refine cd_seq ?_
    refine cd_region ?_
    refine at_pure (pv_field0 fa_28_0 rfl (r := 0) rfl) rfl ?_
    refine at_pure (by exact pv_load ld_25 rfl (box_cell .z .z)) rfl ?_
    refine at_pure (pv_len Try.underlying25 rfl) rfl ?_
    refine at_pure (pv_move rfl) rfl ?_
    refine at_nil ?_
    refine ex_go ?_
    refine cd_block ?_
    refine cd_loop (σ := Nat × List (Int × Int)) (fun s => [(3, Value.pointer (some ⟨g1, 0, none⟩)), (9, Value.pointer (some ⟨gp, 0, none⟩)), (53, .slice a ns.length ca), (54, .int .i64 ns.length), (55, .int .i64 (s.1 : Int))]) (fun s => [Box g1 [.slice a ns.length ca, .slice b ls.length cb] 28, MapP fI gm s.2, RowP encH 1 22 (some ⟨gb, 0, none⟩) ns.length (List.replicate ns.length ((none, 0, []) : Hd Int)), Box gp [.slice a ns.length ca, .slice b ls.length cb, .slice c cs.length cc, .map (some gm), .slice none 0 0, .slice (some ⟨gb, 0, none⟩) ns.length ns.length] 90]) (fun s => s.1 ≤ ns.length ∧ PMap ns s.1 s.2) (fun s => ns.length - s.1) (0, []) ⟨Nat.zero_le _, fun i => by rw [if_neg (by dsimp only; omega)]; rfl⟩ ⟨rfl, rfl, rfl, rfl, rfl, trivial⟩ (by repeat first | exact sLn _ | apply sLc | apply sLd) ?_
    rintro ⟨k, kv⟩ ⟨hk, hq⟩
    dsimp only at hk hq ⊢
    refine cd_seq ?_
    refine cd_region ?_
    refine at_pure (pv_lss rfl rfl) rfl ?_
    refine at_nil ?_
    refine ex_go ?_
    refine cd_seq ?_
    refine cd_if rfl (fun hlt => ?_) (fun hlt => ?_)
    · skip
      refine cd_skip ?_
      refine ex_go ?_
      refine cd_seq ?_
      refine cd_block ?_
      refine cd_seq ?_
      have hkl : k < ns.length := by simpa using hlt
      obtain ⟨z, hz⟩ := get_of hkl
      refine cd_region ?_
      refine at_pure (pv_move rfl) rfl ?_
      refine at_pure (pv_ix Try.underlying25 cz_70 rfl rfl (by first | omega | (simp only [decide_eq_true_eq, decide_eq_false_iff_not] at *; omega)) hn.real (k := k) (by omega)) rfl ?_
      refine at_pure (pv_elems ag_70 rfl (hn.gets hz) rfl) rfl ?_
      refine at_does (does_alloc ze_70 .agg (fun _ => (.cons (.cons (.cons (.cons .nil)))))) rfl (fun g8 => ?_)
      refine at_pure (pv_assign rfl) rfl ?_
      refine at_turns (by exact turns_store sz_70 rfl rfl .agg rfl rfl (.s (.s (.s (.s .z)))) (.rep (.rep (.rep (.rep .done)))) (.s (.s (.s (.s .z))))) ?_
      refine at_nil ?_
      refine ex_go ?_
      refine cd_draw' 7 follows ?_
      refine dr_take 0 rfl (by kernel_rfl) (.refl _) (pv_move rfl) rfl ?_
      refine dr_take 1 rfl (by kernel_rfl) (.refl _) (pv_nilCheck rfl) rfl ?_
      refine dr_take 2 rfl (by kernel_rfl) (.refl _) (pv_field0 fa_90_2 rfl (r := 3) rfl) rfl ?_
      refine dr_take 3 rfl (by kernel_rfl) (.refl _) (by exact pv_load ld_88 rfl (box_cell (.s (.s (.s .z))) (.s (.s (.s .z))))) rfl ?_
      refine dr_take 4 rfl (by kernel_rfl) (.refl _) (pv_field0 fa_70_0 rfl (r := 0) rfl) rfl ?_
      refine dr_take 5 rfl (by kernel_rfl) (.refl _) (by exact pv_load ld_3 rfl (box_cell (.s (.s (.s (.s .z)))) .z)) rfl ?_
      refine dr_take 6 rfl (by kernel_rfl) (.refl _) (pv_move rfl) rfl ?_
      refine dr_one 7 (by kernel_rfl) rfl ?_
      refine at_turns (by exact turns_mapput ((k : Int)) Try.underlying88 Try.underlying3 rfl rfl rfl rfl (.s .z) (.s .z)) ?_
      refine at_nil (dr_next (fun h => by cases h) ?_)
      refine dr_done (by kernel_rfl) ?_
      refine ex_in_normal (ex_go ?_)
      refine cd_region ?_
      refine at_pure (by first | exact pv_add_n rfl rfl (by unfold In64; omega) | exact pv_add rfl rfl) rfl ?_
      refine at_pure (pv_move rfl) rfl ?_
      refine at_nil ?_
      exact ex_meet (k + 1, mset kv z.1 (k : Int)) ⟨⟨by dsimp only; omega, hq.step hvg.nd hz⟩, by dsimp only; omega⟩ ⟨rfl, rfl, rfl, rfl, rfl, trivial⟩ (by repeat first | exact sLn _ | apply sLc | apply sLd)
    · skip
      refine cd_exit ?_
      refine ex_then_exit (ex_then_exit (ex_in (ex_go ?_)))
      refine cd_seq ?_
      have hkk : k = ns.length := by simp at hlt; omega
      subst hkk
      have hpm := hq.all
      obtain ⟨pm, hpe⟩ : ∃ pm, pm = kv := ⟨_, rfl⟩
      subst hpe
      refine cd_region ?_
      refine at_pure (by exact pv_loads_box ag_28 rfl .z (.take (.take .done))) rfl ?_
      refine at_does (does_gives (X := Option Addr × Nat) (val := fun z => .tuple #[.slice z.1 (orderS ns ls).length z.2, .int .i64 0]) (Δ := fun z => [RowP enc1 1 3 z.1 z.2 (orderS ns ls)]) cal56 rfl rfl rfl (fun w hs => by have h9 := order2_go a b ca cb ns ls w (hn.at' hs) (hl.at' hs) hpo.1; exact h9) (fun _ => (.cons (.cons (.cons (.cons .nil)))))) rfl (fun z0 => ?_)
      refine at_pure (pv_move rfl) rfl ?_
      refine at_pure (pv_extract rfl rfl) rfl ?_
      refine at_pure (pv_extract rfl rfl) rfl ?_
      refine at_pure (pv_assign rfl) rfl ?_
      refine at_pure (pv_assign rfl) rfl ?_
      refine at_nil ?_
      refine ex_go ?_
      refine cd_cut (σ := Option Addr × Nat) (fun s => [(3, Value.pointer (some ⟨g1, 0, none⟩)), (9, Value.pointer (some ⟨gp, 0, none⟩))]) (fun s => [Box g1 [.slice a ns.length ca, .slice b ls.length cb] 28, MapP fI gm pm, RowP encH 1 22 (some ⟨gb, 0, none⟩) ns.length (List.replicate ns.length ((none, 0, []) : Hd Int)), Box gp [.slice a ns.length ca, .slice b ls.length cb, .slice c cs.length cc, .map (some gm), .slice s.1 (placesO ns ls).length s.2, .slice (some ⟨gb, 0, none⟩) ns.length ns.length] 90, RowP enc1 1 3 s.1 s.2 (placesO ns ls)]) (fun _ => True) ?_ ?_
      · skip
        refine cd_seq ?_
        refine Cd.know (fun w hs => (hs.rows len1 (by decide) (.s (.s (.s (.s .z))))).real) (fun hreal => ?_)
        refine Cd.addNil 3 enc1 1 (.cons (.cons (.cons (.cons (.cons .nil))))) ?_
        refine cd_region ?_
        refine at_pure (pv_move rfl) rfl ?_
        refine at_pure (pv_len Try.underlying22 rfl) rfl ?_
        refine at_pure (pv_move rfl) rfl ?_
        refine at_nil ?_
        refine ex_go ?_
        refine cd_block ?_
        refine cd_loop (σ := Nat × Option Addr × Nat) (fun s => [(3, Value.pointer (some ⟨g1, 0, none⟩)), (9, Value.pointer (some ⟨gp, 0, none⟩)), (73, .slice z0.1 (orderS ns ls).length z0.2), (74, .int .i64 (orderS ns ls).length), (75, .int .i64 (s.1 : Int))]) (fun s => [Box g1 [.slice a ns.length ca, .slice b ls.length cb] 28, MapP fI gm pm, RowP encH 1 22 (some ⟨gb, 0, none⟩) ns.length (List.replicate ns.length ((none, 0, []) : Hd Int)), Box gp [.slice a ns.length ca, .slice b ls.length cb, .slice c cs.length cc, .map (some gm), .slice s.2.1 (((orderS ns ls).take s.1).map (placeI ns)).length s.2.2, .slice (some ⟨gb, 0, none⟩) ns.length ns.length] 90, RowP enc1 1 3 z0.1 z0.2 (orderS ns ls), RowP enc1 1 3 s.2.1 s.2.2 (((orderS ns ls).take s.1).map (placeI ns))]) (fun s => s.1 ≤ (orderS ns ls).length) (fun s => (orderS ns ls).length - s.1) (0, none, 0) (Nat.zero_le _) ⟨rfl, rfl, rfl, rfl, rfl, trivial⟩ (by repeat first | exact sLn _ | apply sLc | apply sLd) ?_
        rintro ⟨k, oa, oc⟩ hk
        dsimp only at hk ⊢
        refine cd_seq ?_
        refine cd_region ?_
        refine at_pure (pv_lss rfl rfl) rfl ?_
        refine at_nil ?_
        refine ex_go ?_
        refine cd_seq ?_
        refine cd_if rfl (fun hlt2 => ?_) (fun hlt2 => ?_)
        · skip
          refine cd_skip ?_
          refine ex_go ?_
          refine cd_seq ?_
          refine cd_block ?_
          refine cd_seq ?_
          have hkl : k < (orderS ns ls).length := by simpa using hlt2
          obtain ⟨z, hz⟩ := get_of hkl
          have hzi : z ∈ ids ns := hgo.sub z (List.mem_of_getElem? hz)
          have hpl := place_in hzi
          have hmap : ((orderS ns ls).take (k + 1)).map (placeI ns) = ((orderS ns ls).take k).map (placeI ns) ++ [placeI ns z] := by rw [List.take_add_one, hz, List.map_append]; rfl
          refine cd_region ?_
          refine at_pure (pv_ix Try.underlying22 cz_3 rfl rfl (by first | omega | (simp only [decide_eq_true_eq, decide_eq_false_iff_not] at *; omega)) hreal (k := k) (by omega)) rfl ?_
          refine at_pure (pv_elem0 ld_3 rfl (RowP.get len1 (by decide) (.s (.s (.s (.s .z)))) hz .z)) rfl ?_
          refine at_pure (pv_assign rfl) rfl ?_
          refine at_nil ?_
          refine ex_go ?_
          refine cd_draw 15 [MapP fI gm pm, Box gp [.slice a ns.length ca, .slice b ls.length cb, .slice c cs.length cc, .map (some gm), .slice oa (((orderS ns ls).take k).map (placeI ns)).length oc, .slice (some ⟨gb, 0, none⟩) ns.length ns.length] 90] follows ?_
          refine dr_take 0 rfl (by kernel_rfl) (by repeat first | exact sLn _ | apply sLc | apply sLd) (pv_move rfl) rfl ?_
          refine dr_take 1 rfl (by kernel_rfl) (by repeat first | exact sLn _ | apply sLc | apply sLd) (pv_move rfl) rfl ?_
          refine dr_take 2 rfl (by kernel_rfl) (by repeat first | exact sLn _ | apply sLc | apply sLd) (pv_nilCheck rfl) rfl ?_
          refine dr_take 3 rfl (by kernel_rfl) (by repeat first | exact sLn _ | apply sLc | apply sLd) (pv_field0 fa_90_3 rfl (r := 4) rfl) rfl ?_
          refine dr_take 4 rfl (by kernel_rfl) (by repeat first | exact sLn _ | apply sLc | apply sLd) (by exact pv_load ld_22 rfl (box_cell (.s .z) (.s (.s (.s (.s .z)))))) rfl ?_
          refine dr_take 5 rfl (by kernel_rfl) (by repeat first | exact sLn _ | apply sLc | apply sLd) (pv_move rfl) rfl ?_
          refine dr_take 6 rfl (by kernel_rfl) (by repeat first | exact sLn _ | apply sLc | apply sLd) (pv_nilCheck rfl) rfl ?_
          refine dr_take 7 rfl (by kernel_rfl) (by repeat first | exact sLn _ | apply sLc | apply sLd) (pv_field0 fa_90_2 rfl (r := 3) rfl) rfl ?_
          refine dr_take 8 rfl (by kernel_rfl) (by repeat first | exact sLn _ | apply sLc | apply sLd) (by exact pv_load ld_88 rfl (box_cell (.s .z) (.s (.s (.s .z))))) rfl ?_
          refine dr_take 9 rfl (by kernel_rfl) (by repeat first | exact sLn _ | apply sLc | apply sLd) (pv_move rfl) rfl ?_
          refine dr_take 10 rfl (by kernel_rfl) (by repeat first | exact sLn _ | apply sLc | apply sLd) (pv_mapgetIv (pm_get hpm hpl.1) Try.underlying88 Try.underlying3 ze_3 rfl rfl (MapP.get .z)) rfl ?_
          refine dr_one 11 (by kernel_rfl) rfl ?_
          refine at_does (does_list (by rfl) (by exact (bs_22_1_0 _)) (by exact (fun _ => (.cons (.cons (.cons (.cons (.cons (.cons .nil))))))))) rfl (fun g9 => ?_)
          refine at_nil (dr_next (fun _ => (by repeat first | exact sLn _ | apply sLc | apply sLd)) ?_)
          refine dr_one 12 (by kernel_rfl) rfl ?_
          refine at_hands (does_app (ys := [placeI ns z]) ⟨len1, by decide, one1⟩ Try.underlying22 ap_3 rfl rfl rfl (.s (.s (.s (.s (.s .z))))) (fun w hs => hs.box1 (enc := enc1) (.s (.s (.s (.s (.s (.s .z))))))) (by rw [List.length_map, List.length_take]; simp only [List.length_singleton]; omega) (by simp) (fun _ _ => (.s (.s (.s (.s (.s .z))))))) rfl (fun a9 c9 hr10 hc10 => ?_)
          refine at_nil (dr_next (fun _ => (by repeat first | exact sLn _ | apply sLc | apply sLd)) ?_)
          refine dr_take 13 rfl (by kernel_rfl) (by repeat first | exact sLn _ | apply sLc | apply sLd) (pv_nilCheck rfl) rfl ?_
          refine dr_take 14 rfl (by kernel_rfl) (by repeat first | exact sLn _ | apply sLc | apply sLd) (pv_field0 fa_90_3 rfl (r := 4) rfl) rfl ?_
          refine dr_one 15 (by kernel_rfl) rfl ?_
          refine at_turns (by exact turns_store sz_22 rfl rfl (.one rfl) rfl rfl (.s (.s (.s .z))) (.skip (.skip (.skip (.skip (.rep .done))))) (.s (.s (.s .z)))) ?_
          refine at_nil (dr_next (fun h => by cases h) ?_)
          refine dr_done (by kernel_rfl) ?_
          refine ex_in_normal (ex_go ?_)
          refine cd_region ?_
          refine at_pure (by first | exact pv_add_n rfl rfl (by unfold In64; omega) | exact pv_add rfl rfl) rfl ?_
          refine at_pure (pv_move rfl) rfl ?_
          refine at_nil ?_
          exact ex_meet (k + 1, a9, c9) ⟨by dsimp only; omega, by dsimp only; omega⟩ ⟨rfl, rfl, rfl, rfl, rfl, trivial⟩ (by dsimp only; rw [hmap]; repeat first | exact sLn _ | apply sLc | apply sLd)
        · skip
          refine cd_exit ?_
          refine ex_then_exit (ex_then_exit (ex_in ?_))
          have hkk : k = (orderS ns ls).length := by simp at hlt2; omega
          subst hkk
          exact ex_meet (oa, oc) trivial ⟨rfl, rfl, trivial⟩ (by dsimp only; unfold placesO; rw [List.take_length]; repeat first | exact sLn _ | apply sLc | apply sLd)
      · rintro ⟨oa, oc⟩ -
        refine cd_seq ?_
        refine cd_seq ?_
        refine Cd.addRows enc1 1 3 ns.length (.cons (.cons (.cons (.cons (.cons .nil))))) ?_
        refine cd_region ?_
        refine at_pure (pv_field0 fa_28_1 rfl (r := 1) rfl) rfl ?_
        refine at_pure (by exact pv_load ld_26 rfl (box_cell .z (.s .z))) rfl ?_
        refine at_pure (pv_len Try.underlying26 rfl) rfl ?_
        refine at_pure (pv_move rfl) rfl ?_
        refine at_nil ?_
        refine ex_go ?_
        refine cd_block ?_
        refine cd_loop (σ := Nat × List (Hd Int)) (fun s => [(3, Value.pointer (some ⟨g1, 0, none⟩)), (9, Value.pointer (some ⟨gp, 0, none⟩)), (96, .slice b ls.length cb), (97, .int .i64 ls.length), (98, .int .i64 (s.1 : Int))]) (fun s => [Box g1 [.slice a ns.length ca, .slice b ls.length cb] 28, MapP fI gm pm, RowP encH 1 22 (some ⟨gb, 0, none⟩) ns.length s.2, Box gp [.slice a ns.length ca, .slice b ls.length cb, .slice c cs.length cc, .map (some gm), .slice oa (placesO ns ls).length oc, .slice (some ⟨gb, 0, none⟩) ns.length ns.length] 90, RowP enc1 1 3 oa oc (placesO ns ls), RowsP enc1 1 3 s.2]) (fun s => s.1 ≤ ls.length ∧ Befs ns (ls.take s.1) s.2) (fun s => ls.length - s.1) (0, (List.replicate ns.length ((none, 0, []) : Hd Int))) ⟨Nat.zero_le _, Befs.start ns⟩ ⟨rfl, rfl, rfl, rfl, rfl, trivial⟩ (by repeat first | exact sLn _ | apply sLc | apply sLd) ?_
        rintro ⟨k, hds⟩ ⟨hk, hq⟩
        dsimp only at hk hq ⊢
        refine cd_seq ?_
        refine cd_region ?_
        refine at_pure (pv_lss rfl rfl) rfl ?_
        refine at_nil ?_
        refine ex_go ?_
        refine cd_seq ?_
        refine cd_if rfl (fun hlt3 => ?_) (fun hlt3 => ?_)
        · skip
          refine cd_skip ?_
          refine ex_go ?_
          refine cd_seq ?_
          refine cd_block ?_
          refine cd_seq ?_
          have hkl : k < ls.length := by simpa using hlt3
          obtain ⟨z, hz⟩ := get_of hkl
          have hpe := ports_ends (hvg.port z (List.mem_of_getElem? hz))
          have hpf := place_in hpe.1
          have hpt := place_in hpe.2
          have hhl : hds.length = ns.length := hq.1
          obtain ⟨hh, hhk⟩ := get_of (xs := hds) (k := (placeI ns z.2.2.1).toNat) (by omega)
          obtain ⟨yy, hyy, hyy2⟩ := place_get hpt.1
          have hrow := hq.2 _ hh yy hhk hyy
          have hrl : hh.2.2.length ≤ ls.length := by rw [hrow]; unfold befRow; rw [List.length_map]; exact Nat.le_trans (linksTo_len _ _) (by rw [List.length_take]; omega)
          refine cd_region ?_
          refine at_pure (pv_ix Try.underlying26 cz_61 rfl rfl (by first | omega | (simp only [decide_eq_true_eq, decide_eq_false_iff_not] at *; omega)) hl.real (k := k) (by omega)) rfl ?_
          refine at_pure (pv_elems ag_61 rfl (hl.gets hz) rfl) rfl ?_
          refine at_does (does_alloc ze_61 .agg (fun _ => (.cons (.cons (.cons (.cons (.cons (.cons .nil)))))))) rfl (fun gl => ?_)
          refine at_turns (by exact turns_store sz_61 rfl rfl .agg rfl rfl (.s (.s (.s (.s (.s (.s .z)))))) (.rep (.rep (.rep (.rep .done)))) (.s (.s (.s (.s (.s (.s .z))))))) ?_
          refine at_nil ?_
          refine ex_go ?_
          refine cd_seq ?_
          refine cd_draw' 7 follows ?_
          refine dr_take 0 rfl (by kernel_rfl) (.refl _) (pv_move rfl) rfl ?_
          refine dr_take 1 rfl (by kernel_rfl) (.refl _) (pv_nilCheck rfl) rfl ?_
          refine dr_take 2 rfl (by kernel_rfl) (.refl _) (pv_field0 fa_90_2 rfl (r := 3) rfl) rfl ?_
          refine dr_take 3 rfl (by kernel_rfl) (.refl _) (by exact pv_load ld_88 rfl (box_cell (.s (.s (.s .z))) (.s (.s (.s .z))))) rfl ?_
          refine dr_take 4 rfl (by kernel_rfl) (.refl _) (pv_field0 fa_61_2 rfl (r := 2) rfl) rfl ?_
          refine dr_take 5 rfl (by kernel_rfl) (.refl _) (by exact pv_load ld_3 rfl (box_cell (.s (.s (.s (.s (.s (.s .z)))))) (.s (.s .z)))) rfl ?_
          refine dr_take 6 rfl (by kernel_rfl) (.refl _) (pv_mapgetIv (pm_get hpm hpt.1) Try.underlying88 Try.underlying3 ze_3 rfl rfl (MapP.get (.s .z))) rfl ?_
          refine dr_one 7 (by kernel_rfl) rfl ?_
          refine at_pure (pv_assign rfl) rfl ?_
          refine at_nil (dr_next (fun h => by cases h) ?_)
          refine dr_done (by kernel_rfl) ?_
          refine ex_go ?_
          refine cd_draw 22 [MapP fI gm pm, RowP encH 1 22 (some ⟨gb, 0, none⟩) ns.length hds, Box gp [.slice a ns.length ca, .slice b ls.length cb, .slice c cs.length cc, .map (some gm), .slice oa (placesO ns ls).length oc, .slice (some ⟨gb, 0, none⟩) ns.length ns.length] 90, Box gl (enc4 z) 61] follows ?_
          refine dr_take 0 rfl (by kernel_rfl) (by repeat first | exact sLn _ | apply sLc | apply sLd) (pv_move rfl) rfl ?_
          refine dr_take 1 rfl (by kernel_rfl) (by repeat first | exact sLn _ | apply sLc | apply sLd) (pv_nilCheck rfl) rfl ?_
          refine dr_take 2 rfl (by kernel_rfl) (by repeat first | exact sLn _ | apply sLc | apply sLd) (pv_field0 fa_90_4 rfl (r := 5) rfl) rfl ?_
          refine dr_take 3 rfl (by kernel_rfl) (by repeat first | exact sLn _ | apply sLc | apply sLd) (by exact pv_load ld_47 rfl (box_cell (.s (.s .z)) (.s (.s (.s (.s (.s .z))))))) rfl ?_
          refine dr_take 4 rfl (by kernel_rfl) (by repeat first | exact sLn _ | apply sLc | apply sLd) (pv_move rfl) rfl ?_
          refine dr_take 5 rfl (by kernel_rfl) (by repeat first | exact sLn _ | apply sLc | apply sLd) (pv_move rfl) rfl ?_
          refine dr_take 6 rfl (by kernel_rfl) (by repeat first | exact sLn _ | apply sLc | apply sLd) (pv_nilCheck rfl) rfl ?_
          refine dr_take 7 rfl (by kernel_rfl) (by repeat first | exact sLn _ | apply sLc | apply sLd) (pv_field0 fa_90_4 rfl (r := 5) rfl) rfl ?_
          refine dr_take 8 rfl (by kernel_rfl) (by repeat first | exact sLn _ | apply sLc | apply sLd) (by exact pv_load ld_47 rfl (box_cell (.s (.s .z)) (.s (.s (.s (.s (.s .z))))))) rfl ?_
          refine dr_take 9 rfl (by kernel_rfl) (by repeat first | exact sLn _ | apply sLc | apply sLd) (pv_move rfl) rfl ?_
          refine dr_take 10 rfl (by kernel_rfl) (by repeat first | exact sLn _ | apply sLc | apply sLd) (pv_ix Try.underlying47 cz_22 rfl rfl (by first | omega | (simp only [decide_eq_true_eq, decide_eq_false_iff_not] at *; omega)) (.inr rfl) (k := (placeI ns z.2.2.1).toNat) (by omega)) rfl ?_
          refine dr_take 11 rfl (by kernel_rfl) (by repeat first | exact sLn _ | apply sLc | apply sLd) (pv_elem0 ld_22 rfl (RowP.get lenH (by decide) (.s .z) hhk .z)) rfl ?_
          refine dr_take 12 rfl (by kernel_rfl) (by repeat first | exact sLn _ | apply sLc | apply sLd) (pv_move rfl) rfl ?_
          refine dr_take 13 rfl (by kernel_rfl) (by repeat first | exact sLn _ | apply sLc | apply sLd) (pv_nilCheck rfl) rfl ?_
          refine dr_take 14 rfl (by kernel_rfl) (by repeat first | exact sLn _ | apply sLc | apply sLd) (pv_field0 fa_90_2 rfl (r := 3) rfl) rfl ?_
          refine dr_take 15 rfl (by kernel_rfl) (by repeat first | exact sLn _ | apply sLc | apply sLd) (by exact pv_load ld_88 rfl (box_cell (.s (.s .z)) (.s (.s (.s .z))))) rfl ?_
          refine dr_take 16 rfl (by kernel_rfl) (by repeat first | exact sLn _ | apply sLc | apply sLd) (pv_field0 fa_61_0 rfl (r := 0) rfl) rfl ?_
          refine dr_take 17 rfl (by kernel_rfl) (by repeat first | exact sLn _ | apply sLc | apply sLd) (by exact pv_load ld_3 rfl (box_cell (.s (.s (.s .z))) .z)) rfl ?_
          refine dr_take 18 rfl (by kernel_rfl) (by repeat first | exact sLn _ | apply sLc | apply sLd) (pv_mapgetIv (pm_get hpm hpf.1) Try.underlying88 Try.underlying3 ze_3 rfl rfl (MapP.get .z)) rfl ?_
          refine dr_one 19 (by kernel_rfl) rfl ?_
          refine at_does (does_list (by rfl) (by exact (bs_22_1_0 _)) (by exact (fun _ => (.cons (.cons (.cons (.cons (.cons (.cons (.cons .nil)))))))))) rfl (fun g12 => ?_)
          refine at_nil (dr_next (fun _ => (by repeat first | exact sLn _ | apply sLc | apply sLd)) ?_)
          refine dr_one 20 (by kernel_rfl) rfl ?_
          refine at_hands (does_appIn (k := (placeI ns z.2.2.1).toNat) (ys := [placeI ns z.1]) ⟨len1, by decide, one1⟩ Try.underlying22 ap_3 rfl rfl rfl (.s (.s (.s (.s (.s .z))))) hhk (fun w hs => hs.box1 (enc := enc1) (.s (.s (.s (.s (.s (.s (.s .z)))))))) (by simp only [List.length_singleton]; omega) (by simp) (fun _ _ => (.s (.s (.s (.s (.s .z))))))) rfl (fun a9 c9 hr9 hc9 => ?_)
          refine at_nil (dr_next (fun _ => (by repeat first | exact sLn _ | apply sLc | apply sLd)) ?_)
          refine dr_take 21 rfl (by kernel_rfl) (by repeat first | exact sLn _ | apply sLc | apply sLd) (pv_ix Try.underlying47 cz_22 rfl rfl (by first | omega | (simp only [decide_eq_true_eq, decide_eq_false_iff_not] at *; omega)) (.inr rfl) (k := (placeI ns z.2.2.1).toNat) (by omega)) rfl ?_
          refine dr_one 22 (by kernel_rfl) rfl ?_
          refine at_turns (by exact turns_put (z' := (a9, c9, hh.2.2 ++ [placeI ns z.1])) (k := (placeI ns z.2.2.1).toNat) (q := 0) lenH sz_22 rfl rfl rfl (.one rfl) rfl rfl (.s (.s .z)) hhk rfl (Nat.le_of_ble_eq_true rfl) (.s (.s .z))) ?_
          refine at_nil (dr_next (fun h => by cases h) ?_)
          refine dr_done (by kernel_rfl) ?_
          refine ex_in_normal (ex_go ?_)
          refine cd_region ?_
          refine at_pure (by first | exact pv_add_n rfl rfl (by unfold In64; omega) | exact pv_add rfl rfl) rfl ?_
          refine at_pure (pv_move rfl) rfl ?_
          refine at_nil ?_
          exact ex_meet (k + 1, hds.set (placeI ns z.2.2.1).toNat (a9, c9, hh.2.2 ++ [placeI ns z.1])) ⟨⟨by dsimp only; omega, hq.step hvg.nd hz hpt.1 hhk⟩, by dsimp only; omega⟩ ⟨rfl, rfl, rfl, rfl, rfl, trivial⟩ (by repeat first | exact sLn _ | apply sLc | apply sLd)
        · skip
          refine cd_exit ?_
          refine ex_then_exit (ex_then_exit (ex_in (ex_go ?_)))
          refine cd_seq ?_
          refine cd_region ?_
          refine at_pure (pv_move rfl) rfl ?_
          refine at_pure (pv_assign rfl) rfl ?_
          refine at_pure (pv_assign rfl) rfl ?_
          refine at_nil ?_
          refine ex_go ?_
          refine cd_ret ?_
          exact end_ret2 rfl rfl rfl (fun w hs => by have hkk : k = ls.length := (by simp at hlt3; omega); subst hkk; rw [List.take_length] at hq; exact Makes.mk ⟨gp, gm, gb, oc, oa, pm, hds⟩ ⟨hpm, hq⟩ rfl (by repeat first | exact sLn _ | apply sLc | apply sLd) hs)

end Go.Proofs.Ytkejdfnpbkdllaa
