/- The longest path by the program. -/
import Derived.Test.YtkejdfnpbkdllaaLat3F
import Derived.Test.YtkejdfnpbkdllaaLat
set_option linter.unusedVariables false
set_option linter.unusedSimpArgs false
set_option maxRecDepth 20000
namespace Go.Proofs.Ytkejdfnpbkdllaa
open Go Go.RowKit Go.Proofs.YtkejdfnpbkdllaaV
theorem place_get {ns : List Q4} {i : Int} (h : 0 ≤ placeI ns i) : ∃ z, ns[(placeI ns i).toNat]? = some z ∧ z.1 = i := by
  unfold placeI at h ⊢
  obtain ⟨z, h1, h2⟩ := fIx_some (Int.le_refl _) h
  rw [Int.sub_zero] at h1
  exact ⟨z, h1, by simpa using h2⟩
theorem place_inj {ns : List Q4} {i j : Int} (hi : 0 ≤ placeI ns i) (h : placeI ns i = placeI ns j) : i = j := by
  obtain ⟨z, h1, h2⟩ := place_get hi
  obtain ⟨y, h3, h4⟩ := place_get (h ▸ hi)
  rw [h] at h1
  rw [h1] at h3
  cases h3
  rw [← h2, ← h4]
theorem ids_place {ns : List Q4} {i : Int} : i ∈ ids ns ↔ 0 ≤ placeI ns i := by
  constructor
  · intro h; exact (place_in h).1
  · intro h
    obtain ⟨z, h1, h2⟩ := place_get h
    exact List.mem_map.2 ⟨z, List.mem_of_getElem? h1, h2⟩
theorem place_at {ns : List Q4} (hN : (ids ns).Nodup) {k : Nat} {z : Q4} (hz : ns[k]? = some z) : placeI ns z.1 = k := by
  have hm : z.1 ∈ ids ns := List.mem_map.2 ⟨z, List.mem_of_getElem? hz, rfl⟩
  have hp := place_in hm
  obtain ⟨y, h1, h2⟩ := place_get hp.1
  have hk := (List.getElem?_eq_some_iff.1 hz).1
  rcases Nat.lt_trichotomy (placeI ns z.1).toNat k with h | h | h
  · have := List.pairwise_iff_getElem.1 (List.pairwise_map.1 hN) _ k (List.getElem?_eq_some_iff.1 h1).1 hk h
    rw [(List.getElem?_eq_some_iff.1 h1).2, (List.getElem?_eq_some_iff.1 hz).2] at this
    exact absurd h2 this
  · omega
  · have := List.pairwise_iff_getElem.1 (List.pairwise_map.1 hN) k _ hk (List.getElem?_eq_some_iff.1 h1).1 h
    rw [(List.getElem?_eq_some_iff.1 h1).2, (List.getElem?_eq_some_iff.1 hz).2] at this
    exact absurd h2.symm this
/-- The map of the first k nodes' weights. -/
def WMap (ns : List Q4) (ws : List Int) (k : Nat) (kv : List (Int × Int)) : Prop := ∀ i, mget kv i = if 0 ≤ placeI ns i ∧ placeI ns i < k then some (at1 ws (placeI ns i).toNat) else none
theorem WMap.step {ns : List Q4} {ws : List Int} {k : Nat} {kv : List (Int × Int)} (hN : (ids ns).Nodup) (h : WMap ns ws k kv) {z : Q4} {x : Int} (hz : ns[k]? = some z) (hx : ws[k]? = some x) : WMap ns ws (k + 1) (mset kv z.1 x) := fun i => by
  have hp := place_at hN hz
  rw [mget_mset]
  by_cases e : z.1 = i
  · subst e
    rw [if_pos rfl, hp, if_pos (by omega)]
    unfold at1
    rw [List.getD_eq_getElem?_getD]
    simp [hx]
  · rw [if_neg e, h i]
    by_cases e1 : 0 ≤ placeI ns i ∧ placeI ns i < k
    · rw [if_pos e1, if_pos (by omega)]
    · rw [if_neg e1, if_neg]
      rintro ⟨h1, h2⟩
      exact e (place_inj (ns := ns) (by omega) (by omega))
theorem WMap.all {ns : List Q4} {ws : List Int} {kv : List (Int × Int)} (h : WMap ns ws ns.length kv) (i : Int) : mget kv i = if 0 ≤ placeI ns i then some (at1 ws (placeI ns i).toNat) else none := by
  rw [h i]
  have := place_lt ns i
  by_cases e : 0 ≤ placeI ns i
  · rw [if_pos e, if_pos (by omega)]
  · rw [if_neg e, if_neg (by omega)]
def optS (x : Int) : Option Int := if x < 0 then none else some x
def Best (ns : List Q4) (xs : List Int) (kv : List (Int × Int)) : Prop := ∀ i, 0 ≤ placeI ns i → mget kv i = optS (at1 xs (placeI ns i).toNat)
theorem Best.put {ns : List Q4} {xs : List Int} {kv : List (Int × Int)} (h : Best ns xs kv) (hl : xs.length = ns.length) {i v : Int} (hi : 0 ≤ placeI ns i) (hv : 0 ≤ v) : Best ns (xs.set (placeI ns i).toNat v) (mset kv i v) := fun j hj => by
  have hpi := place_lt ns i
  rw [mget_mset, at1_set (by omega)]
  by_cases e : i = j
  · subst e
    rw [if_pos rfl, if_pos rfl]
    unfold optS
    rw [if_neg (by omega)]
  · rw [if_neg e, if_neg (fun e2 => e (place_inj hi (by omega)))]
    exact h j hj
theorem Best.start {ns : List Q4} {ws : List Int} {i v : Int} (hi : 0 ≤ placeI ns i) (hv : 0 ≤ at1 ws (placeI ns i).toNat) (he : v = at1 ws (placeI ns i).toNat) : Best ns (lonI ns ws (placeI ns i)) (mset [] i v) := fun j hj => by
  have hpi := place_lt ns i
  have hpj := place_lt ns j
  unfold lonI
  rw [mget_mset, at1_set (by simp; omega)]
  by_cases e : i = j
  · subst e
    rw [if_pos rfl, if_pos rfl, he]
    unfold optS
    rw [if_neg (by omega)]
  · rw [if_neg e, if_neg (fun e2 => e (place_inj hi (by omega)))]
    have : at1 (List.replicate ns.length (-1 : Int)) (placeI ns j).toNat = -1 := by
      unfold at1
      rw [List.getD_eq_getElem?_getD, List.getElem?_replicate, if_pos (by omega)]; rfl
    rw [this]; rfl
theorem lonO_links (ns ls : List Q4) (ws sums : List Int) (z : Int) : lonO ns ls ws sums z = (linksTo z ls).foldl (lonL ns ws z) sums := by
  unfold lonO linksTo
  rw [List.foldl_filter]
  congr 1
  funext xs l
  split
  · rfl
  · rename_i h
    exact lonL_no1 (by simpa using h)
theorem opt_some (x : Int) : (optS x).isSome = decide (0 ≤ x) := by
  unfold optS
  by_cases h : x < 0
  · rw [if_pos h, decide_eq_false (by omega)]; rfl
  · rw [if_neg h, decide_eq_true (by omega)]; rfl
theorem opt_get {x : Int} (h : 0 ≤ x) : (optS x).getD 0 = x := by
  unfold optS
  rw [if_neg (by omega)]; rfl
theorem best_max {x s : Int} (h : -1 ≤ x) (hs : 0 ≤ s) : maxI ((optS x).getD 0) s = maxI x s := by
  unfold optS maxI
  by_cases e : x < 0
  · rw [if_pos e]
    show (if s > 0 then s else 0) = if s > x then s else x
    have h9 : s > x := by omega
    rw [if_pos h9]
    by_cases e2 : s > 0
    · rw [if_pos e2]
    · rw [if_neg e2]; omega
  · rw [if_neg e]; rfl
theorem any_all {ws : List Int} {b : Bool} (h : (ws.any fun x => !costB x) = b) : ws.all costB = !b := by
  rw [← h, List.all_eq_not_any_not]

theorem wrong_eq {n : Int} (h : decide (n < 0) = false) : decide (1099511627776 < n) = !costB n := by
  simp only [decide_eq_false_iff_not] at h
  unfold costB
  rw [decide_eq_true (show 0 ≤ n by omega), Bool.eq_iff_iff]; simp

theorem wrong53 (n : Int) (w : World) : Calls Try.prog 53 [.int .i64 n].toArray w (Val (.bool (!costB n)) w) := by
  refine calls_body (n := 9) Try.func53 rfl rfl rfl (St.init _ []) ?_
  refine cd_seq ?_
  refine cd_region ?_
  refine at_pure (pv_assign rfl) rfl ?_
  refine at_nil ?_
  refine ex_go ?_
  refine cd_seq ?_
  refine cd_region ?_
  refine at_pure (pv_move rfl) rfl ?_
  refine at_pure (pv_lss rfl rfl) rfl ?_
  refine at_pure (pv_move rfl) rfl ?_
  refine at_split 5 rfl (fun hb1 => ?_) (fun hb1 => ?_)
  · skip
    refine at_skip rfl rfl hb1 rfl ?_
    refine at_skip rfl rfl hb1 rfl ?_
    refine at_pure (pv_pick_t rfl hb1 rfl) rfl ?_
    refine at_pure (pv_assign rfl) rfl ?_
    refine at_nil ?_
    refine ex_go ?_
    refine cd_ret ?_
    exact end_ret1 rfl rfl (fun w hs => ⟨by clear hs; refine congrArg (fun b => Ending.returned (.bool b)) ?_; first | (rw [costB_no (x := n) (.inl (of_decide_eq_true hb1))]; rfl) | exact wrong_eq hb1, hs.keep⟩)
  · skip
    refine at_pure_g rfl rfl hb1 (pv_move rfl) rfl ?_
    refine at_pure_g rfl rfl hb1 (pv_gtr rfl rfl) rfl ?_
    refine at_pure (pv_pick_f rfl hb1 rfl) rfl ?_
    refine at_pure (pv_assign rfl) rfl ?_
    refine at_nil ?_
    refine ex_go ?_
    refine cd_ret ?_
    exact end_ret1 rfl rfl (fun w hs => ⟨by clear hs; refine congrArg (fun b => Ending.returned (.bool b)) ?_; first | (rw [costB_no (x := n) (.inl (of_decide_eq_true hb1))]; rfl) | exact wrong_eq hb1, hs.keep⟩)

set_option maxRecDepth 10000 in
set_option maxHeartbeats 4000000 in
theorem longest_go (a b : Option Addr) (ca cb : Nat) (ns ls : List Q4) (c : Option Addr) (cc : Nat) (ws : List Int) (f t : Int) (w : World) (hn : Sl [] enc4 4 w a ca ns) (hl : Sl [] enc4 4 w b cb ls) (hc : Sl [] enc1 1 w c cc ws) : Calls Try.prog 22 [.agg #[.slice a ns.length ca, .slice b ls.length cb], .slice c ws.length cc, .int .i64 f, .int .i64 t].toArray w (Val (.tuple #[.int .i64 (lonV ns ls ws f t), .int .i64 (lonE ns ls ws f t)]) w) := by
  refine calls_body (n := 135) Try.func22 rfl rfl rfl (St.init _ []) ?_
  refine cd_seq ?_
  refine cd_region ?_
  refine at_does (does_box rfl .agg (fun _ => .nil)) rfl (fun g1 => ?_)
  refine at_pure (pv_assign rfl) rfl ?_
  refine at_pure (pv_assign rfl) rfl ?_
  refine at_nil ?_
  refine ex_go ?_
  refine cd_seq ?_
  refine cd_region ?_
  refine at_pure (pv_assign rfl) rfl ?_
  refine at_nil ?_
  refine ex_go ?_
  refine cd_seq ?_
  refine cd_seq ?_
  refine cd_region ?_
  refine at_pure (by exact pv_loads_box ag_28 rfl .z (.take (.take .done))) rfl ?_
  refine at_does (does_val cal54 rfl rfl rfl (fun w hs => valid_go _ _ _ _ _ _ w (hn.at' hs) (hl.at' hs))) rfl (fun _ => ?_)
  refine at_pure (pv_not rfl) rfl ?_
  refine at_pure (pv_move rfl) rfl ?_
  refine at_split 32 rfl (fun hb1 => ?_) (fun hb1 => ?_)
  · skip
    refine at_skip rfl rfl hb1 rfl ?_
    refine at_skip rfl rfl hb1 rfl ?_
    refine at_skip rfl rfl hb1 rfl ?_
    refine at_skip rfl rfl hb1 rfl ?_
    refine at_skip rfl rfl hb1 rfl ?_
    refine at_skip rfl rfl hb1 rfl ?_
    refine at_pure (pv_pick_t rfl hb1 rfl) rfl ?_
    refine at_pure (pv_move rfl) rfl ?_
    refine at_skip rfl rfl rfl rfl ?_
    refine at_skip rfl rfl rfl rfl ?_
    refine at_skip rfl rfl rfl rfl ?_
    refine at_pure (pv_pick_t rfl rfl rfl) rfl ?_
    refine at_nil ?_
    refine ex_go ?_
    refine cd_then rfl rfl ?_
    refine cd_seq ?_
    refine cd_region ?_
    refine at_pure (pv_assign rfl) rfl ?_
    refine at_pure (pv_assign rfl) rfl ?_
    refine at_nil ?_
    refine ex_go ?_
    refine cd_ret ?_
    refine ex_then_ret ?_
    exact end_ret2 rfl rfl rfl (fun w hs => ⟨by clear hs; first | (rw [hm.1, hm.2]; done) | (rw [hlast.1, hlast.2]; first | done | rfl) | (have h9 : lonE ns ls ws f t = 1 ∧ lonV ns ls ws f t = 0 := lon_no (lonOk_no (.inl (by simpa using hb1))); rw [h9.1, h9.2]; done) | (have h9 : lonE ns ls ws f t = 1 ∧ lonV ns ls ws f t = 0 := lon_no (lonOk_no (.inr (.inl (bne_t hb2)))); rw [h9.1, h9.2]; done) | (have h9 : lonE ns ls ws f t = 1 ∧ lonV ns ls ws f t = 0 := lon_no (lonOk_no (.inr (.inr (any_all hb3)))); rw [h9.1, h9.2]; done), hs.keep⟩)
  · skip
    refine at_pure_g rfl rfl hb1 (pv_move rfl) rfl ?_
    refine at_pure_g rfl rfl hb1 (pv_len Try.underlying22 rfl) rfl ?_
    refine at_pure_g rfl rfl hb1 (pv_field0 fa_28_0 rfl (r := 0) rfl) rfl ?_
    refine at_pure_g rfl rfl hb1 (by exact pv_load ld_25 rfl (box_cell .z .z)) rfl ?_
    refine at_pure_g rfl rfl hb1 (pv_len Try.underlying25 rfl) rfl ?_
    refine at_pure_g rfl rfl hb1 (pv_neq rfl rfl) rfl ?_
    refine at_pure (pv_pick_f rfl hb1 rfl) rfl ?_
    refine at_pure (pv_move rfl) rfl ?_
    refine at_split 40 rfl (fun hb2 => ?_) (fun hb2 => ?_)
    · skip
      refine at_skip rfl rfl hb2 rfl ?_
      refine at_skip rfl rfl hb2 rfl ?_
      refine at_skip rfl rfl hb2 rfl ?_
      refine at_pure (pv_pick_t rfl hb2 rfl) rfl ?_
      refine at_nil ?_
      refine ex_go ?_
      refine cd_then rfl rfl ?_
      refine cd_seq ?_
      refine cd_region ?_
      refine at_pure (pv_assign rfl) rfl ?_
      refine at_pure (pv_assign rfl) rfl ?_
      refine at_nil ?_
      refine ex_go ?_
      refine cd_ret ?_
      refine ex_then_ret ?_
      exact end_ret2 rfl rfl rfl (fun w hs => ⟨by clear hs; first | (rw [hm.1, hm.2]; done) | (rw [hlast.1, hlast.2]; first | done | rfl) | (have h9 : lonE ns ls ws f t = 1 ∧ lonV ns ls ws f t = 0 := lon_no (lonOk_no (.inl (by simpa using hb1))); rw [h9.1, h9.2]; done) | (have h9 : lonE ns ls ws f t = 1 ∧ lonV ns ls ws f t = 0 := lon_no (lonOk_no (.inr (.inl (bne_t hb2)))); rw [h9.1, h9.2]; done) | (have h9 : lonE ns ls ws f t = 1 ∧ lonV ns ls ws f t = 0 := lon_no (lonOk_no (.inr (.inr (any_all hb3)))); rw [h9.1, h9.2]; done), hs.keep⟩)
    · skip
      refine at_pure_g rfl rfl hb2 (pv_move rfl) rfl ?_
      refine at_pure_g rfl rfl hb2 (pv_move rfl) rfl ?_
      refine at_does_g rfl rfl hb2 (does_val cal55 rfl rfl rfl (fun w hs => contains_ints c cc ws (fun x => !costB x) 53 #[] #[] w (hc.at' hs) cal53 (fun z hz w' k => wrong53 z w'))) rfl (fun _ => ?_)
      refine at_pure (pv_pick_f rfl hb2 rfl) rfl ?_
      refine at_nil ?_
      refine ex_go ?_
      refine cd_if rfl (fun hb3 => ?_) (fun hb3 => ?_)
      · skip
        refine cd_seq ?_
        refine cd_region ?_
        refine at_pure (pv_assign rfl) rfl ?_
        refine at_pure (pv_assign rfl) rfl ?_
        refine at_nil ?_
        refine ex_go ?_
        refine cd_ret ?_
        refine ex_then_ret ?_
        exact end_ret2 rfl rfl rfl (fun w hs => ⟨by clear hs; first | (rw [hm.1, hm.2]; done) | (rw [hlast.1, hlast.2]; first | done | rfl) | (have h9 : lonE ns ls ws f t = 1 ∧ lonV ns ls ws f t = 0 := lon_no (lonOk_no (.inl (by simpa using hb1))); rw [h9.1, h9.2]; done) | (have h9 : lonE ns ls ws f t = 1 ∧ lonV ns ls ws f t = 0 := lon_no (lonOk_no (.inr (.inl (bne_t hb2)))); rw [h9.1, h9.2]; done) | (have h9 : lonE ns ls ws f t = 1 ∧ lonV ns ls ws f t = 0 := lon_no (lonOk_no (.inr (.inr (any_all hb3)))); rw [h9.1, h9.2]; done), hs.keep⟩)
      · skip
        refine cd_skip ?_
        refine ex_go ?_
        refine cd_seq ?_
        have q1 : validS ns ls = true := by simpa using hb1
        have q2 : ((ws.length : Int) == (ns.length : Int)) = true := bne_f hb2
        have q3 : ws.all costB = true := any_all hb3
        clear hb1 hb2
        have hok : lonOk ns ls ws = true := lonOk_yes q1 q2 q3
        have hcs := costs_of q3
        have hwl : ws.length = ns.length := by have := beq_iff_eq.1 q2; omega
        have hpf := place_lt ns f
        have hpt := place_lt ns t
        have hvf := valid_facts q1
        have hvg := (valid_iff ns ls).1 q1
        have hgo := (good_order ls hvg.nd).1
        refine cd_region ?_
        refine at_does (does_makeMap fI (fun _ => (.cons .nil))) rfl (fun gw => ?_)
        refine at_pure (pv_assign rfl) rfl ?_
        refine at_nil ?_
        refine ex_go ?_
        refine cd_seq ?_
        refine cd_seq ?_
        refine cd_region ?_
        refine at_pure (pv_field0 fa_28_0 rfl (r := 0) rfl) rfl ?_
        refine at_pure (by exact pv_load ld_25 rfl (box_cell .z .z)) rfl ?_
        refine at_pure (pv_len Try.underlying25 rfl) rfl ?_
        refine at_pure (pv_move rfl) rfl ?_
        refine at_nil ?_
        refine ex_go ?_
        refine cd_block ?_
        refine cd_loop (σ := Nat × List (Int × Int)) (fun s => [(1, .slice c ws.length cc), (2, .int .i64 f), (3, .int .i64 t), (4, Value.pointer (some ⟨g1, 0, none⟩)), (11, .map (some gw)), (47, .slice a ns.length ca), (48, .int .i64 ns.length), (49, .int .i64 (s.1 : Int))]) (fun s => [Box g1 [.slice a ns.length ca, .slice b ls.length cb] 28, MapP fI gw s.2]) (fun s => s.1 ≤ ns.length ∧ WMap ns ws s.1 s.2) (fun s => ns.length - s.1) (0, []) ⟨Nat.zero_le _, fun i => by rw [if_neg (by dsimp only; omega)]; rfl⟩ ⟨rfl, rfl, rfl, rfl, rfl, rfl, rfl, rfl, trivial⟩ (by repeat first | exact List.nil_sublist _ | apply List.Sublist.cons_cons | apply List.Sublist.cons) ?_
        rintro ⟨k, kv⟩ ⟨hk, hq⟩
        dsimp only at hk hq ⊢
        refine cd_seq ?_
        refine cd_region ?_
        refine at_pure (pv_lss rfl rfl) rfl ?_
        refine at_nil ?_
        refine ex_go ?_
        refine cd_seq ?_
        refine cd_if rfl (fun hlt => ?_) (fun hlt => ?_)
        · skip
          refine cd_skip ?_
          refine ex_go ?_
          refine cd_seq ?_
          refine cd_block ?_
          refine cd_seq ?_
          have hkl : k < ns.length := by simpa using hlt
          obtain ⟨z, hz⟩ := get_of hkl
          have hx := at1_get (xs := ws) (k := k) (by omega)
          refine cd_region ?_
          refine at_pure (pv_move rfl) rfl ?_
          refine at_pure (pv_ix Try.underlying25 cz_70 rfl rfl (by first | omega | (simp only [decide_eq_true_eq] at *; omega)) hn.real (k := k) (by omega)) rfl ?_
          refine at_pure (pv_elems ag_70 rfl (hn.gets hz) rfl) rfl ?_
          refine at_does (does_alloc ze_70 .agg (fun _ => (.cons (.cons .nil)))) rfl (fun g3 => ?_)
          refine at_pure (pv_assign rfl) rfl ?_
          refine at_turns (by exact turns_store sz_70 rfl rfl .agg rfl rfl (.s (.s .z)) (.rep (.rep (.rep (.rep .done)))) (.s (.s .z))) ?_
          refine at_nil ?_
          refine ex_go ?_
          refine cd_draw' 7 follows ?_
          refine dr_take 0 rfl (by kernel_rfl) (by first | exact List.Sublist.refl _ | (repeat first | exact List.Sublist.slnil | exact List.nil_sublist _ | apply List.Sublist.cons_cons | apply List.Sublist.cons)) (pv_move rfl) rfl ?_
          refine dr_take 1 rfl (by kernel_rfl) (by first | exact List.Sublist.refl _ | (repeat first | exact List.Sublist.slnil | exact List.nil_sublist _ | apply List.Sublist.cons_cons | apply List.Sublist.cons)) (pv_field0 fa_70_0 rfl (r := 0) rfl) rfl ?_
          refine dr_take 2 rfl (by kernel_rfl) (by first | exact List.Sublist.refl _ | (repeat first | exact List.Sublist.slnil | exact List.nil_sublist _ | apply List.Sublist.cons_cons | apply List.Sublist.cons)) (by exact pv_load ld_3 rfl (box_cell (.s (.s .z)) .z)) rfl ?_
          refine dr_take 3 rfl (by kernel_rfl) (by first | exact List.Sublist.refl _ | (repeat first | exact List.Sublist.slnil | exact List.nil_sublist _ | apply List.Sublist.cons_cons | apply List.Sublist.cons)) (pv_move rfl) rfl ?_
          refine dr_take 4 rfl (by kernel_rfl) (by first | exact List.Sublist.refl _ | (repeat first | exact List.Sublist.slnil | exact List.nil_sublist _ | apply List.Sublist.cons_cons | apply List.Sublist.cons)) (pv_move rfl) rfl ?_
          refine dr_take 5 rfl (by kernel_rfl) (by first | exact List.Sublist.refl _ | (repeat first | exact List.Sublist.slnil | exact List.nil_sublist _ | apply List.Sublist.cons_cons | apply List.Sublist.cons)) (pv_ix Try.underlying22 cz_3 rfl rfl (by first | omega | (simp only [decide_eq_true_eq] at *; omega)) hc.real (k := k) (by omega)) rfl ?_
          refine dr_take 6 rfl (by kernel_rfl) (by first | exact List.Sublist.refl _ | (repeat first | exact List.Sublist.slnil | exact List.nil_sublist _ | apply List.Sublist.cons_cons | apply List.Sublist.cons)) (pv_elem0 ld_3 rfl (hc.get hx .z)) rfl ?_
          refine dr_one 7 (by kernel_rfl) rfl ?_
          refine at_turns (by exact turns_mapput (at1 ws k) Try.underlying88 Try.underlying3 rfl rfl rfl rfl (.s .z) (.s .z)) ?_
          refine at_nil (dr_next (fun h => by cases h) ?_)
          refine dr_done (by kernel_rfl) ?_
          refine ex_in_normal (ex_go ?_)
          refine cd_region ?_
          refine at_pure (by first | exact pv_add_n rfl rfl (by unfold In64; omega) | exact pv_add rfl rfl) rfl ?_
          refine at_pure (pv_move rfl) rfl ?_
          refine at_nil ?_
          exact ex_meet (k + 1, mset kv z.1 (at1 ws k)) ⟨⟨by dsimp only; omega, hq.step hvg.nd hz hx⟩, by dsimp only; omega⟩ ⟨rfl, rfl, rfl, rfl, rfl, rfl, rfl, rfl, trivial⟩ (by repeat first | exact List.nil_sublist _ | apply List.Sublist.cons_cons | apply List.Sublist.cons)
        · skip
          refine cd_exit ?_
          refine ex_then_exit (ex_then_exit (ex_in (ex_go ?_)))
          refine cd_seq ?_
          have hkk : k = ns.length := by simp at hlt; omega
          subst hkk
          have hwa := hq.all
          obtain ⟨wm, hwm⟩ : ∃ wm, wm = kv := ⟨_, rfl⟩
          subst hwm
          refine cd_region ?_
          refine at_pure (pv_move rfl) rfl ?_
          refine at_pure (pv_move rfl) rfl ?_
          refine at_pure (pv_mapgetI2 Try.underlying88 Try.underlying3 ze_3 rfl rfl (MapP.get (.s .z))) rfl ?_
          refine at_pure (pv_move rfl) rfl ?_
          refine at_pure (pv_extract rfl rfl) rfl ?_
          refine at_pure (pv_extract rfl rfl) rfl ?_
          refine at_pure (pv_assign rfl) rfl ?_
          refine at_pure (pv_assign rfl) rfl ?_
          refine at_nil ?_
          refine ex_go ?_
          refine cd_seq ?_
          refine cd_seq ?_
          refine cd_region ?_
          refine at_pure (pv_move rfl) rfl ?_
          refine at_pure (pv_move rfl) rfl ?_
          refine at_pure (pv_mapgetI2 Try.underlying88 Try.underlying3 ze_3 rfl rfl (MapP.get (.s .z))) rfl ?_
          refine at_pure (pv_move rfl) rfl ?_
          refine at_pure (pv_extract rfl rfl) rfl ?_
          refine at_pure (pv_extract rfl rfl) rfl ?_
          refine at_pure (pv_assign rfl) rfl ?_
          refine at_pure (pv_assign rfl) rfl ?_
          refine at_nil ?_
          refine ex_go ?_
          refine cd_seq ?_
          refine cd_region ?_
          refine at_pure (pv_move rfl) rfl ?_
          refine at_pure (pv_not rfl) rfl ?_
          refine at_pure (pv_move rfl) rfl ?_
          refine at_split 76 rfl (fun hb5 => ?_) (fun hb5 => ?_)
          · skip
            refine at_skip rfl rfl hb5 rfl ?_
            refine at_skip rfl rfl hb5 rfl ?_
            refine at_pure (pv_pick_t rfl hb5 rfl) rfl ?_
            refine at_nil ?_
            refine ex_go ?_
            refine cd_then rfl rfl ?_
            refine cd_seq ?_
            have hm := lon_miss (f := f) (t := t) hok (by simp only [hwa] at *; by_cases h1 : 0 ≤ placeI ns f <;> by_cases h2 : 0 ≤ placeI ns t <;> simp_all <;> omega)
            refine cd_region ?_
            refine at_pure (pv_assign rfl) rfl ?_
            refine at_pure (pv_assign rfl) rfl ?_
            refine at_nil ?_
            refine ex_go ?_
            refine cd_ret ?_
            refine ex_then_ret ?_
            exact end_ret2 rfl rfl rfl (fun w hs => ⟨by clear hs; first | (rw [hm.1, hm.2]; done) | (rw [hlast.1, hlast.2]; first | done | rfl) | (have h9 : lonE ns ls ws f t = 1 ∧ lonV ns ls ws f t = 0 := lon_no (lonOk_no (.inl (by simpa using hb1))); rw [h9.1, h9.2]; done) | (have h9 : lonE ns ls ws f t = 1 ∧ lonV ns ls ws f t = 0 := lon_no (lonOk_no (.inr (.inl (bne_t hb2)))); rw [h9.1, h9.2]; done) | (have h9 : lonE ns ls ws f t = 1 ∧ lonV ns ls ws f t = 0 := lon_no (lonOk_no (.inr (.inr (any_all hb3)))); rw [h9.1, h9.2]; done), hs.keep⟩)
          · skip
            refine at_pure_g rfl rfl hb5 (pv_move rfl) rfl ?_
            refine at_pure_g rfl rfl hb5 (pv_not rfl) rfl ?_
            refine at_pure (pv_pick_f rfl hb5 rfl) rfl ?_
            refine at_nil ?_
            refine ex_go ?_
            refine cd_if rfl (fun hb6 => ?_) (fun hb6 => ?_)
            · skip
              refine cd_seq ?_
              have hm := lon_miss (f := f) (t := t) hok (by simp only [hwa] at *; by_cases h1 : 0 ≤ placeI ns f <;> by_cases h2 : 0 ≤ placeI ns t <;> simp_all <;> omega)
              refine cd_region ?_
              refine at_pure (pv_assign rfl) rfl ?_
              refine at_pure (pv_assign rfl) rfl ?_
              refine at_nil ?_
              refine ex_go ?_
              refine cd_ret ?_
              refine ex_then_ret ?_
              exact end_ret2 rfl rfl rfl (fun w hs => ⟨by clear hs; first | (rw [hm.1, hm.2]; done) | (rw [hlast.1, hlast.2]; first | done | rfl) | (have h9 : lonE ns ls ws f t = 1 ∧ lonV ns ls ws f t = 0 := lon_no (lonOk_no (.inl (by simpa using hb1))); rw [h9.1, h9.2]; done) | (have h9 : lonE ns ls ws f t = 1 ∧ lonV ns ls ws f t = 0 := lon_no (lonOk_no (.inr (.inl (bne_t hb2)))); rw [h9.1, h9.2]; done) | (have h9 : lonE ns ls ws f t = 1 ∧ lonV ns ls ws f t = 0 := lon_no (lonOk_no (.inr (.inr (any_all hb3)))); rw [h9.1, h9.2]; done), hs.keep⟩)
            · skip
              refine cd_skip ?_
              refine ex_go ?_
              refine cd_seq ?_
              have hpf0 : 0 ≤ placeI ns f ∧ placeI ns f < ns.length := by
                have hb5' : (mget wm f).isSome = true := by simpa using hb5
                rw [hwa] at hb5'
                by_cases h1 : 0 ≤ placeI ns f
                · omega
                · simp [h1] at hb5'
              have hpt0 : 0 ≤ placeI ns t ∧ placeI ns t < ns.length := by
                have hb6' : (mget wm t).isSome = true := by simpa using hb6
                rw [hwa] at hb6'
                by_cases h1 : 0 ≤ placeI ns t
                · omega
                · simp [h1] at hb6'
              have hwb := at1_bound (k := (placeI ns f).toNat) hcs (by omega)
              refine cd_region ?_
              refine at_does (does_makeMap fI (fun _ => (.cons (.cons .nil)))) rfl (fun gb => ?_)
              refine at_pure (pv_move rfl) rfl ?_
              refine at_pure (pv_move rfl) rfl ?_
              refine at_pure (pv_move rfl) rfl ?_
              refine at_pure (pv_mapgetI Try.underlying88 Try.underlying3 ze_3 rfl rfl (MapP.get (.s .z))) rfl ?_
              refine at_turns (by exact turns_mapputi ((mget wm f).getD 0) Try.underlying88 Try.underlying3 rfl rfl rfl rfl (.s (.s .z)) (.s (.s .z))) ?_
              refine at_pure (pv_move rfl) rfl ?_
              refine at_pure (pv_assign rfl) rfl ?_
              refine at_nil ?_
              refine ex_go ?_
              refine cd_seq ?_
              refine cd_region ?_
              refine at_pure (by exact pv_loads_box ag_28 rfl .z (.take (.take .done))) rfl ?_
              refine at_does (does_gives (X := Option Addr × Nat) (val := fun z => .tuple #[.slice z.1 (orderS ns ls).length z.2, .int .i64 0]) (Δ := fun z => [RowP enc1 1 3 z.1 z.2 (orderS ns ls)]) cal56 rfl rfl rfl (fun w hs => by have h9 := order2_go a b ca cb ns ls w (hn.at' hs) (hl.at' hs) q1; exact h9) (fun _ => (.cons (.cons (.cons .nil))))) rfl (fun z0 => ?_)
              refine at_pure (pv_move rfl) rfl ?_
              refine at_pure (pv_extract rfl rfl) rfl ?_
              refine at_pure (pv_extract rfl rfl) rfl ?_
              refine at_pure (pv_assign rfl) rfl ?_
              refine at_pure (pv_assign rfl) rfl ?_
              refine at_nil ?_
              refine ex_go ?_
              refine cd_seq ?_
              refine cd_seq ?_
              refine Cd.know (fun w hs => (hs.rows len1 (by decide) (.s (.s (.s .z)))).real) (fun hreal => ?_)
              refine cd_region ?_
              refine at_pure (pv_move rfl) rfl ?_
              refine at_pure (pv_len Try.underlying22 rfl) rfl ?_
              refine at_pure (pv_move rfl) rfl ?_
              refine at_nil ?_
              refine ex_go ?_
              refine cd_block ?_
              refine cd_loop (σ := Nat × List Int × List (Int × Int)) (fun s => [(2, .int .i64 f), (3, .int .i64 t), (4, Value.pointer (some ⟨g1, 0, none⟩)), (11, .map (some gw)), (18, .map (some gb)), (91, .slice z0.1 (orderS ns ls).length z0.2), (92, .int .i64 (orderS ns ls).length), (93, .int .i64 (s.1 : Int))]) (fun s => [Box g1 [.slice a ns.length ca, .slice b ls.length cb] 28, MapP fI gw wm, MapP fI gb s.2.2, RowP enc1 1 3 z0.1 z0.2 (orderS ns ls)]) (fun s => s.1 ≤ (orderS ns ls).length ∧ s.2.1.length = ns.length ∧ lonR ns ls ws (placeI ns f) = ((orderS ns ls).drop s.1).foldl (lonO ns ls ws) s.2.1 ∧ (∀ x ∈ s.2.1, -1 ≤ x ∧ x ≤ ((s.1 * 256 + 1 : Int)) * 1099511627776) ∧ Best ns s.2.1 s.2.2) (fun s => (orderS ns ls).length - s.1) (0, lonI ns ws (placeI ns f), mset [] f ((mget wm f).getD 0)) ⟨Nat.zero_le _, by simp [lonI], rfl, by intro x hx; dsimp only at hx ⊢; unfold lonI at hx; rcases List.mem_or_eq_of_mem_set hx with hx | hx; simp at hx; omega; omega, Best.start hpf0.1 hwb.1 (by rw [hwa, if_pos hpf0.1]; rfl)⟩ ⟨rfl, rfl, rfl, rfl, rfl, rfl, rfl, rfl, trivial⟩ (by repeat first | exact List.nil_sublist _ | apply List.Sublist.cons_cons | apply List.Sublist.cons) ?_
              rintro ⟨k, sums, kv⟩ ⟨hk, hsl, hq, hsb, hbe⟩
              dsimp only at hk hsl hq hsb hbe ⊢
              have hk64 : k ≤ 64 := by have := hvf.1; have := hvf.2.2.2.2; omega
              refine cd_seq ?_
              refine cd_region ?_
              refine at_pure (pv_lss rfl rfl) rfl ?_
              refine at_nil ?_
              refine ex_go ?_
              refine cd_seq ?_
              refine cd_if rfl (fun hlt2 => ?_) (fun hlt2 => ?_)
              · skip
                refine cd_skip ?_
                refine ex_go ?_
                refine cd_seq ?_
                refine cd_block ?_
                refine cd_seq ?_
                have hkl : k < (orderS ns ls).length := by simpa using hlt2
                obtain ⟨z, hz⟩ := get_of hkl
                have hzi : z ∈ ids ns := hgo.sub z (List.mem_of_getElem? hz)
                have hpl := place_in hzi
                refine cd_region ?_
                refine at_pure (pv_ix Try.underlying22 cz_3 rfl rfl (by first | omega | (simp only [decide_eq_true_eq] at *; omega)) hreal (k := k) (by omega)) rfl ?_
                refine at_pure (pv_elem0 ld_3 rfl (RowP.get len1 (by decide) (.s (.s (.s .z))) hz .z)) rfl ?_
                refine at_pure (pv_assign rfl) rfl ?_
                refine at_nil ?_
                refine ex_go ?_
                refine cd_seq ?_
                refine cd_region ?_
                refine at_pure (by exact pv_loads_box ag_28 rfl .z (.take (.take .done))) rfl ?_
                refine at_pure (pv_move rfl) rfl ?_
                refine at_does (does_gives (X := Option Addr × Nat) (val := fun u => .slice u.1 (linksTo z ls).length u.2) (Δ := fun u => [RowP enc4 4 61 u.1 u.2 (linksTo z ls)]) cal57 rfl rfl rfl (fun w hs => by have h9 := inputs_go a b ca cb ns ls z w (hn.at' hs) (hl.at' hs) q1; exact h9) (fun _ => (.cons (.cons (.cons (.cons .nil)))))) rfl (fun y0 => ?_)
                refine At.know (fun w hs => (hs.rows len4 (by decide) (.s (.s (.s (.s .z))))).real) (fun hreal2 => ?_)
                refine at_pure (pv_len Try.underlying26 rfl) rfl ?_
                refine at_pure (pv_move rfl) rfl ?_
                refine at_nil ?_
                refine ex_go ?_
                refine cd_block ?_
                refine cd_loop (σ := Nat × List Int × List (Int × Int)) (fun s => [(2, .int .i64 f), (3, .int .i64 t), (4, Value.pointer (some ⟨g1, 0, none⟩)), (11, .map (some gw)), (18, .map (some gb)), (22, .int .i64 z), (91, .slice z0.1 (orderS ns ls).length z0.2), (92, .int .i64 (orderS ns ls).length), (93, .int .i64 (k : Int)), (99, .slice y0.1 (linksTo z ls).length y0.2), (100, .int .i64 (linksTo z ls).length), (101, .int .i64 (s.1 : Int))]) (fun s => [Box g1 [.slice a ns.length ca, .slice b ls.length cb] 28, MapP fI gw wm, MapP fI gb s.2.2, RowP enc1 1 3 z0.1 z0.2 (orderS ns ls), RowP enc4 4 61 y0.1 y0.2 (linksTo z ls)]) (fun s => s.1 ≤ (linksTo z ls).length ∧ s.2.1.length = ns.length ∧ (linksTo z ls).foldl (lonL ns ws z) sums = ((linksTo z ls).drop s.1).foldl (lonL ns ws z) s.2.1 ∧ (∀ x ∈ s.2.1, -1 ≤ x ∧ x ≤ ((k * 256 + s.1 + 1 : Int)) * 1099511627776) ∧ Best ns s.2.1 s.2.2) (fun s => (linksTo z ls).length - s.1) (0, sums, kv) ⟨Nat.zero_le _, hsl, rfl, by intro x hx; have := hsb x hx; dsimp only; omega, hbe⟩ ⟨rfl, rfl, rfl, rfl, rfl, rfl, rfl, rfl, rfl, rfl, rfl, rfl, trivial⟩ (by repeat first | exact List.nil_sublist _ | apply List.Sublist.cons_cons | apply List.Sublist.cons) ?_
                rintro ⟨j, xs, kv'⟩ ⟨hj, hxl, hq2, hxb, hbe'⟩
                dsimp only at hj hxl hq2 hxb hbe' ⊢
                refine cd_seq ?_
                refine cd_region ?_
                refine at_pure (pv_lss rfl rfl) rfl ?_
                refine at_nil ?_
                refine ex_go ?_
                refine cd_seq ?_
                refine cd_if rfl (fun hlt3 => ?_) (fun hlt3 => ?_)
                · have hjl : j < (linksTo z ls).length := by simpa using hlt3
                  obtain ⟨y, hy⟩ := get_of hjl
                  have hym := List.mem_of_getElem? hy
                  unfold linksTo at hym
                  rw [List.mem_filter, beq_iff_eq] at hym
                  obtain ⟨hyl, hyz⟩ := hym
                  have hll := linksTo_len z ls
                  have hl256 := hvf.2.1
                  have hyi := (ports_ends (hvg.port y hyl)).1
                  have hpy := place_in hyi
                  have hab := at1_lo (k := (placeI ns y.1).toNat) hxb (by omega)
                  have hazb := at1_lo (k := (placeI ns z).toNat) hxb (by omega)
                  have hwzb := at1_bound (k := (placeI ns z).toNat) hcs (by omega)
                  have hgy := hbe' y.1 hpy.1
                  have hgz := hbe' z hpl.1
                  have hgw := hwa z
                  rw [if_pos hpl.1] at hgw
                  refine cd_skip ?_
                  refine ex_go ?_
                  refine cd_seq ?_
                  refine cd_block ?_
                  refine cd_seq ?_
                  refine cd_region ?_
                  refine at_pure (pv_ix Try.underlying26 cz_61 rfl rfl (by first | omega | (simp only [decide_eq_true_eq] at *; omega)) hreal2 (k := j) (by omega)) rfl ?_
                  refine at_pure (pv_elems ag_61 rfl (RowP.gets len4 (by decide) (.s (.s (.s (.s .z)))) hy) rfl) rfl ?_
                  refine at_does (does_alloc ze_61 .agg (fun _ => (.cons (.cons (.cons (.cons (.cons .nil))))))) rfl (fun g5 => ?_)
                  refine at_turns (by exact turns_store sz_61 rfl rfl .agg rfl rfl (.s (.s (.s (.s (.s .z))))) (.rep (.rep (.rep (.rep .done)))) (.s (.s (.s (.s (.s .z)))))) ?_
                  refine at_nil ?_
                  refine ex_go ?_
                  refine cd_seq ?_
                  refine cd_region ?_
                  refine at_pure (pv_move rfl) rfl ?_
                  refine at_pure (pv_field0 fa_61_0 rfl (r := 0) rfl) rfl ?_
                  refine at_pure (by exact pv_load ld_3 rfl (box_cell (.s (.s (.s (.s (.s .z))))) .z)) rfl ?_
                  refine at_pure (pv_mapgetI2 Try.underlying88 Try.underlying3 ze_3 rfl rfl (MapP.get (.s (.s .z)))) rfl ?_
                  refine at_pure (pv_move rfl) rfl ?_
                  refine at_pure (pv_extract rfl rfl) rfl ?_
                  refine at_pure (pv_extract rfl rfl) rfl ?_
                  refine at_pure (pv_assign rfl) rfl ?_
                  refine at_pure (pv_assign rfl) rfl ?_
                  refine at_nil ?_
                  refine ex_go ?_
                  refine cd_seq ?_
                  refine cd_region ?_
                  refine at_pure (pv_move rfl) rfl ?_
                  refine at_nil ?_
                  refine ex_go ?_
                  refine cd_if rfl (fun hsum => ?_) (fun hsum => ?_)
                  · have hyes : decide (0 ≤ at1 xs (placeI ns y.1).toNat) = true := by rw [← opt_some, ← hgy]; exact hsum
                    have hy0 : 0 ≤ at1 xs (placeI ns y.1).toNat := by simpa using hyes
                    have hgy2 : (mget kv' y.1).getD 0 = at1 xs (placeI ns y.1).toNat := by rw [hgy]; exact opt_get hy0
                    have hgw2 : (mget wm z).getD 0 = at1 ws (placeI ns z).toNat := by rw [hgw]; rfl
                    have hMV : (maxI ((mget kv' z).getD 0) ((mget kv' y.1).getD 0 + (mget wm z).getD 0)) = (maxI (at1 xs (placeI ns z).toNat) (at1 xs (placeI ns y.1).toNat + at1 ws (placeI ns z).toNat)) := by rw [hgz, hgy2, hgw2]; exact best_max hazb.1 (by omega)
                    have hmm0 : 0 ≤ (maxI (at1 xs (placeI ns z).toNat) (at1 xs (placeI ns y.1).toNat + at1 ws (placeI ns z).toNat)) := by unfold maxI; split <;> omega
                    have hmmb : -1 ≤ (maxI (at1 xs (placeI ns z).toNat) (at1 xs (placeI ns y.1).toNat + at1 ws (placeI ns z).toNat)) ∧ (maxI (at1 xs (placeI ns z).toNat) (at1 xs (placeI ns y.1).toNat + at1 ws (placeI ns z).toNat)) ≤ ((k * 256 + j + 1 + 1 : Nat) : Int) * 1099511627776 := maxI_le (by omega) (by omega)
                    refine cd_region ?_
                    refine at_pure (pv_move rfl) rfl ?_
                    refine at_pure (pv_move rfl) rfl ?_
                    refine at_pure (pv_move rfl) rfl ?_
                    refine at_pure (pv_move rfl) rfl ?_
                    refine at_pure (pv_mapgetI Try.underlying88 Try.underlying3 ze_3 rfl rfl (MapP.get (.s (.s .z)))) rfl ?_
                    refine at_pure (pv_move rfl) rfl ?_
                    refine at_pure (pv_move rfl) rfl ?_
                    refine at_pure (pv_move rfl) rfl ?_
                    refine at_pure (pv_mapgetI Try.underlying88 Try.underlying3 ze_3 rfl rfl (MapP.get (.s .z))) rfl ?_
                    refine at_pure (by first | exact pv_add_n rfl rfl (by unfold In64; omega) | exact pv_add rfl rfl) rfl ?_
                    refine at_pure (pv_max rfl rfl) rfl ?_
                    refine at_turns (by exact turns_mapput ((maxI ((mget kv' z).getD 0) ((mget kv' y.1).getD 0 + (mget wm z).getD 0))) Try.underlying88 Try.underlying3 rfl rfl rfl rfl (.s (.s .z)) (.s (.s .z))) ?_
                    refine at_nil ?_
                    refine ex_in_normal (ex_go ?_)
                    refine cd_region ?_
                    refine at_pure (by first | exact pv_add_n rfl rfl (by unfold In64; omega) | exact pv_add rfl rfl) rfl ?_
                    refine at_pure (pv_move rfl) rfl ?_
                    refine at_nil ?_
                    first | exact ex_meet (j + 1, xs.set (placeI ns z).toNat (maxI (at1 xs (placeI ns z).toNat) (at1 xs (placeI ns y.1).toNat + at1 ws (placeI ns z).toNat)), mset kv' z (maxI ((mget kv' z).getD 0) ((mget kv' y.1).getD 0 + (mget wm z).getD 0))) ⟨⟨by dsimp only; omega, by dsimp only; rw [List.length_set]; exact hxl, fold_step hq2 hy (lonL_yes (beq_iff_eq.2 hyz) hyes rfl), by dsimp only; intro x hx; rcases List.mem_or_eq_of_mem_set hx with hx | hx; have := hxb x hx; omega; omega, by dsimp only; rw [hMV]; exact hbe'.put hxl hpl.1 hmm0⟩, by dsimp only; omega⟩ ⟨rfl, rfl, rfl, rfl, rfl, rfl, rfl, rfl, rfl, rfl, rfl, rfl, trivial⟩ (by repeat first | exact List.nil_sublist _ | apply List.Sublist.cons_cons | apply List.Sublist.cons) | exact ex_meet (j + 1, xs, kv') ⟨⟨by dsimp only; omega, hxl, fold_step hq2 hy (lonL_no2 hyno), by dsimp only; intro x hx; have := hxb x hx; omega, hbe'⟩, by dsimp only; omega⟩ ⟨rfl, rfl, rfl, rfl, rfl, rfl, rfl, rfl, rfl, rfl, rfl, rfl, trivial⟩ (by repeat first | exact List.nil_sublist _ | apply List.Sublist.cons_cons | apply List.Sublist.cons)
                  · have hyno : decide (0 ≤ at1 xs (placeI ns y.1).toNat) = false := by rw [← opt_some, ← hgy]; exact hsum
                    refine cd_skip ?_
                    refine ex_in_normal (ex_go ?_)
                    refine cd_region ?_
                    refine at_pure (by first | exact pv_add_n rfl rfl (by unfold In64; omega) | exact pv_add rfl rfl) rfl ?_
                    refine at_pure (pv_move rfl) rfl ?_
                    refine at_nil ?_
                    first | exact ex_meet (j + 1, xs.set (placeI ns z).toNat (maxI (at1 xs (placeI ns z).toNat) (at1 xs (placeI ns y.1).toNat + at1 ws (placeI ns z).toNat)), mset kv' z (maxI ((mget kv' z).getD 0) ((mget kv' y.1).getD 0 + (mget wm z).getD 0))) ⟨⟨by dsimp only; omega, by dsimp only; rw [List.length_set]; exact hxl, fold_step hq2 hy (lonL_yes (beq_iff_eq.2 hyz) hyes rfl), by dsimp only; intro x hx; rcases List.mem_or_eq_of_mem_set hx with hx | hx; have := hxb x hx; omega; omega, by dsimp only; rw [hMV]; exact hbe'.put hxl hpl.1 hmm0⟩, by dsimp only; omega⟩ ⟨rfl, rfl, rfl, rfl, rfl, rfl, rfl, rfl, rfl, rfl, rfl, rfl, trivial⟩ (by repeat first | exact List.nil_sublist _ | apply List.Sublist.cons_cons | apply List.Sublist.cons) | exact ex_meet (j + 1, xs, kv') ⟨⟨by dsimp only; omega, hxl, fold_step hq2 hy (lonL_no2 hyno), by dsimp only; intro x hx; have := hxb x hx; omega, hbe'⟩, by dsimp only; omega⟩ ⟨rfl, rfl, rfl, rfl, rfl, rfl, rfl, rfl, rfl, rfl, rfl, rfl, trivial⟩ (by repeat first | exact List.nil_sublist _ | apply List.Sublist.cons_cons | apply List.Sublist.cons)
                · have hxe : lonO ns ls ws sums z = xs := by rw [lonO_links]; exact fold_end hq2 (by simp at hlt3; omega)
                  have hl256 := hvf.2.1
                  have hll := linksTo_len z ls
                  refine cd_exit ?_
                  refine ex_then_exit (ex_then_exit (ex_in (ex_in_normal (ex_go ?_))))
                  refine cd_region ?_
                  refine at_pure (by first | exact pv_add_n rfl rfl (by unfold In64; omega) | exact pv_add rfl rfl) rfl ?_
                  refine at_pure (pv_move rfl) rfl ?_
                  refine at_nil ?_
                  exact ex_meet (k + 1, xs, kv') ⟨⟨by dsimp only; omega, hxl, fold_step hq hz hxe, by intro x hx; have := hxb x hx; omega, hbe'⟩, by dsimp only; omega⟩ ⟨rfl, rfl, rfl, rfl, rfl, rfl, rfl, rfl, trivial⟩ (by repeat first | exact List.nil_sublist _ | apply List.Sublist.cons_cons | apply List.Sublist.cons)
              · skip
                refine cd_exit ?_
                refine ex_then_exit (ex_then_exit (ex_in (ex_go ?_)))
                refine cd_seq ?_
                have hres : lonR ns ls ws (placeI ns f) = sums := fold_end hq (by simp at hlt2; omega)
                have hgt := hbe t hpt0.1
                refine cd_region ?_
                refine at_pure (pv_move rfl) rfl ?_
                refine at_pure (pv_move rfl) rfl ?_
                refine at_pure (pv_mapgetI2 Try.underlying88 Try.underlying3 ze_3 rfl rfl (MapP.get (.s (.s .z)))) rfl ?_
                refine at_pure (pv_move rfl) rfl ?_
                refine at_pure (pv_extract rfl rfl) rfl ?_
                refine at_pure (pv_extract rfl rfl) rfl ?_
                refine at_pure (pv_assign rfl) rfl ?_
                refine at_pure (pv_assign rfl) rfl ?_
                refine at_nil ?_
                refine ex_go ?_
                refine cd_seq ?_
                refine cd_seq ?_
                refine cd_region ?_
                refine at_pure (pv_move rfl) rfl ?_
                refine at_pure (pv_not rfl) rfl ?_
                refine at_nil ?_
                refine ex_go ?_
                refine cd_if rfl (fun hfin => ?_) (fun hfin => ?_)
                · skip
                  refine cd_seq ?_
                  have hlast := lon_none (f := f) (t := t) hok hpf0.1 hpt0.1 (by
                    rw [hres]
                    have h9 : (mget kv t).isSome = false := by simpa using hfin
                    rw [hgt, opt_some] at h9
                    simp only [decide_eq_false_iff_not] at h9
                    omega)
                  refine cd_region ?_
                  refine at_pure (pv_assign rfl) rfl ?_
                  refine at_pure (pv_assign rfl) rfl ?_
                  refine at_nil ?_
                  refine ex_go ?_
                  refine cd_ret ?_
                  refine ex_then_ret ?_
                  exact end_ret2 rfl rfl rfl (fun w hs => ⟨by clear hs; first | (rw [hm.1, hm.2]; done) | (rw [hlast.1, hlast.2]; first | done | rfl) | (have h9 : lonE ns ls ws f t = 1 ∧ lonV ns ls ws f t = 0 := lon_no (lonOk_no (.inl (by simpa using hb1))); rw [h9.1, h9.2]; done) | (have h9 : lonE ns ls ws f t = 1 ∧ lonV ns ls ws f t = 0 := lon_no (lonOk_no (.inr (.inl (bne_t hb2)))); rw [h9.1, h9.2]; done) | (have h9 : lonE ns ls ws f t = 1 ∧ lonV ns ls ws f t = 0 := lon_no (lonOk_no (.inr (.inr (any_all hb3)))); rw [h9.1, h9.2]; done), hs.keep⟩)
                · skip
                  refine cd_skip ?_
                  refine ex_go ?_
                  refine cd_seq ?_
                  have h8 : 0 ≤ at1 sums (placeI ns t).toNat := by
                    have h9 : (mget kv t).isSome = true := by simpa using hfin
                    rw [hgt, opt_some] at h9
                    simpa using h9
                  have hlast := lon_is (f := f) (t := t) hok hpf0.1 hpt0.1 (by rw [hres]; exact h8)
                  have hval : (mget kv t).getD 0 = at1 sums (placeI ns t).toNat := by rw [hgt]; exact opt_get h8
                  rw [hres] at hlast
                  rw [hval]
                  refine cd_region ?_
                  refine at_pure (pv_move rfl) rfl ?_
                  refine at_pure (pv_assign rfl) rfl ?_
                  refine at_pure (pv_assign rfl) rfl ?_
                  refine at_nil ?_
                  refine ex_go ?_
                  refine cd_ret ?_
                  exact end_ret2 rfl rfl rfl (fun w hs => ⟨by clear hs; first | (rw [hm.1, hm.2]; done) | (rw [hlast.1, hlast.2]; first | done | rfl) | (have h9 : lonE ns ls ws f t = 1 ∧ lonV ns ls ws f t = 0 := lon_no (lonOk_no (.inl (by simpa using hb1))); rw [h9.1, h9.2]; done) | (have h9 : lonE ns ls ws f t = 1 ∧ lonV ns ls ws f t = 0 := lon_no (lonOk_no (.inr (.inl (bne_t hb2)))); rw [h9.1, h9.2]; done) | (have h9 : lonE ns ls ws f t = 1 ∧ lonV ns ls ws f t = 0 := lon_no (lonOk_no (.inr (.inr (any_all hb3)))); rw [h9.1, h9.2]; done), hs.keep⟩)

end Go.Proofs.Ytkejdfnpbkdllaa
