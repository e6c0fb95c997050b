/- The program's graph: Valid, Order, Inputs. -/
import Derived.Test.YtkejdfnpbkdllaaF25
import Derived.Test.YtkejdfnpbkdllaaGP2
set_option linter.unusedVariables false
set_option linter.unusedSimpArgs false
set_option maxRecDepth 20000
namespace Go.Proofs.Ytkejdfnpbkdllaa
open Go Go.RowKit Go.Proofs.YtkejdfnpbkdllaaV
theorem asc_of {ns : List Q4} (h : ∀ j, j < ns.length → nodeOkAt ns j = true) : ns.Pairwise fun x y => x.1 < y.1 := by
  rw [pw_iff (fun x y z h1 h2 => by omega)]
  intro k x y hx hy
  have hz := h (k + 1) (List.getElem?_eq_some_iff.1 hy).1
  rw [nodeAt_eq hy] at hz
  simp only [Bool.and_eq_true, Bool.not_eq_true', Bool.and_eq_false_iff, decide_eq_false_iff_not] at hz
  have h0 := at0_get (xs := ns) (List.getElem?_eq_some_iff.1 hx).1
  rw [Nat.add_sub_cancel] at hz
  rw [hx] at h0
  cases h0
  rcases hz.2 with h1 | h1 <;> omega
theorem look_take_none {ns : List Q4} (hN : (ids ns).Nodup) {k : Nat} {z : Q4} (hz : ns[k]? = some z) : look (ns.take k) z.1 = none := by
  unfold look
  rw [List.find?_eq_none]
  intro x hx
  have hkl := (List.getElem?_eq_some_iff.1 hz).1
  obtain ⟨j, hj⟩ := List.getElem?_of_mem hx
  rw [List.getElem?_take] at hj
  split at hj
  · rename_i hjk
    have hjl := (List.getElem?_eq_some_iff.1 hj).1
    have hp := List.pairwise_iff_getElem.1 (List.pairwise_map.1 hN) j k hjl hkl hjk
    rw [(List.getElem?_eq_some_iff.1 hj).2, (List.getElem?_eq_some_iff.1 hz).2] at hp
    simpa using hp
  · cases hj
theorem nodeMap_take {ns : List Q4} (hN : (ids ns).Nodup) : ∀ k i, mget (nodeMap (ns.take k)) i = look (ns.take k) i
  | 0, i => rfl
  | k + 1, i => by
    by_cases hk : k < ns.length
    · obtain ⟨z, hz⟩ := get_of hk
      rw [nodeMap_step hz, mget_mset, nodeMap_take hN k i]
      have hno := look_take_none hN hz
      have e : ns.take (k + 1) = ns.take k ++ [z] := by rw [List.take_add_one, hz]; rfl
      rw [e]
      unfold look at hno ⊢
      rw [List.find?_append]
      by_cases h : z.1 = i
      · subst h; rw [hno]; simp
      · have hzi : (z.1 == i) = false := beq_eq_false_iff_ne.2 h
        simp [h, hzi]
    · rw [List.take_of_length_le (by omega)]
      have := nodeMap_take hN k i
      rw [List.take_of_length_le (by omega)] at this
      exact this
theorem nodeMap_get {ns : List Q4} (hN : (ids ns).Nodup) (i : Int) : mget (nodeMap ns) i = look ns i := by
  have := nodeMap_take hN ns.length i
  rwa [List.take_length] at this
theorem nodeMap_nd {ns : List Q4} (hN : (ids ns).Nodup) : ∀ i, (mget (nodeMap ns) i).getD (0, 0, 0, 0) = nodeD ns i := fun i => by rw [nodeMap_get hN]; rfl
theorem cmpL_t {x y : Q4} {b : Bool} (h : decide (0 ≤ cmpL x y) = b) : less x y = !b := by rw [cmpL_less] at h; rw [← h, Bool.not_not]

set_option maxRecDepth 10000 in
set_option maxHeartbeats 2000000 in
theorem valid_go (a b : Option Addr) (ca cb : Nat) (ns ls : List Q4) (w : World) (hn : Sl [] enc4 4 w a ca ns) (hl : Sl [] enc4 4 w b cb ls) : Calls Try.prog 54 [.agg #[.slice a ns.length ca, .slice b ls.length cb]].toArray w (Val (.bool (validS ns ls)) w) := by
  refine calls_body (n := 99) Try.func54 rfl rfl rfl (St.init _ []) ?_
  refine cd_seq ?_
  refine cd_region ?_
  refine at_does (does_box rfl .agg (fun _ => .nil)) rfl (fun g1 => ?_)
  refine at_pure (pv_assign rfl) rfl ?_
  refine at_nil ?_
  refine ex_go ?_
  refine cd_seq ?_
  refine cd_seq ?_
  refine cd_region ?_
  refine at_pure (pv_field0 fa_28_0 rfl (r := 0) rfl) rfl ?_
  refine at_pure (by exact pv_load ld_25 rfl (box_cell .z .z)) rfl ?_
  refine at_pure (pv_len Try.underlying25 rfl) rfl ?_
  refine at_pure (pv_gtr rfl rfl) rfl ?_
  refine at_pure (pv_move rfl) rfl ?_
  refine at_split 14 rfl (fun hb1 => ?_) (fun hb1 => ?_)
  · skip
    refine at_skip rfl rfl hb1 rfl ?_
    refine at_skip rfl rfl hb1 rfl ?_
    refine at_skip rfl rfl hb1 rfl ?_
    refine at_skip rfl rfl hb1 rfl ?_
    refine at_pure (pv_pick_t rfl hb1 rfl) rfl ?_
    refine at_nil ?_
    refine ex_go ?_
    refine cd_then rfl rfl ?_
    refine cd_seq ?_
    refine cd_region ?_
    refine at_pure (pv_assign rfl) rfl ?_
    refine at_nil ?_
    refine ex_go ?_
    refine cd_ret ?_
    refine ex_then_ret ?_
    exact end_ret1 rfl rfl (fun w hs => ⟨by clear hs; refine congrArg (fun b => Ending.returned (.bool b)) ?_; first | exact (valid_all hb64 hb256 hnodes hlinks).symm | exact (valid_no0 (by simp only [decide_eq_true_eq] at *; omega)).symm | exact (valid_no1 hkl (by rw [nodeAt_eq hz]; simp only [Bool.not_eq_true', Bool.not_eq_false'] at *; simp only [Bool.and_true, Bool.true_and, Bool.and_false, Bool.false_and, Bool.or_true, Bool.true_or, Bool.or_false, Bool.false_or, Bool.not_true, Bool.not_false, *])).symm | exact (valid_no2 hkl (by rw [linkAt_eq hz, hcw]; simp)).symm | exact (valid_no2 hkl (by rw [linkAt_eq hz]; simp only [cmpL_less, Bool.not_eq_true', Bool.not_eq_false'] at *; simp only [Bool.and_true, Bool.true_and, Bool.and_false, Bool.false_and, Bool.or_true, Bool.true_or, Bool.or_false, Bool.false_or, Bool.not_true, Bool.not_false, *])).symm, hs.keep⟩)
  · skip
    refine at_pure_g rfl rfl hb1 (pv_field0 fa_28_1 rfl (r := 1) rfl) rfl ?_
    refine at_pure_g rfl rfl hb1 (by exact pv_load ld_26 rfl (box_cell .z (.s .z))) rfl ?_
    refine at_pure_g rfl rfl hb1 (pv_len Try.underlying26 rfl) rfl ?_
    refine at_pure_g rfl rfl hb1 (pv_gtr rfl rfl) rfl ?_
    refine at_pure (pv_pick_f rfl hb1 rfl) rfl ?_
    refine at_nil ?_
    refine ex_go ?_
    refine cd_if rfl (fun hb2 => ?_) (fun hb2 => ?_)
    · skip
      refine cd_seq ?_
      refine cd_region ?_
      refine at_pure (pv_assign rfl) rfl ?_
      refine at_nil ?_
      refine ex_go ?_
      refine cd_ret ?_
      refine ex_then_ret ?_
      exact end_ret1 rfl rfl (fun w hs => ⟨by clear hs; refine congrArg (fun b => Ending.returned (.bool b)) ?_; first | exact (valid_all hb64 hb256 hnodes hlinks).symm | exact (valid_no0 (by simp only [decide_eq_true_eq] at *; omega)).symm | exact (valid_no1 hkl (by rw [nodeAt_eq hz]; simp only [Bool.not_eq_true', Bool.not_eq_false'] at *; simp only [Bool.and_true, Bool.true_and, Bool.and_false, Bool.false_and, Bool.or_true, Bool.true_or, Bool.or_false, Bool.false_or, Bool.not_true, Bool.not_false, *])).symm | exact (valid_no2 hkl (by rw [linkAt_eq hz, hcw]; simp)).symm | exact (valid_no2 hkl (by rw [linkAt_eq hz]; simp only [cmpL_less, Bool.not_eq_true', Bool.not_eq_false'] at *; simp only [Bool.and_true, Bool.true_and, Bool.and_false, Bool.false_and, Bool.or_true, Bool.true_or, Bool.or_false, Bool.false_or, Bool.not_true, Bool.not_false, *])).symm, hs.keep⟩)
    · skip
      refine cd_skip ?_
      refine ex_go ?_
      refine cd_seq ?_
      refine cd_seq ?_
      have hb64 : ns.length ≤ 64 := by simp only [decide_eq_false_iff_not] at *; omega
      have hb256 : ls.length ≤ 256 := by simp only [decide_eq_false_iff_not] at *; omega
      refine cd_region ?_
      refine at_pure (pv_field0 fa_28_0 rfl (r := 0) rfl) rfl ?_
      refine at_pure (by exact pv_load ld_25 rfl (box_cell .z .z)) rfl ?_
      refine at_pure (pv_len Try.underlying25 rfl) rfl ?_
      refine at_pure (pv_move rfl) rfl ?_
      refine at_nil ?_
      refine ex_go ?_
      refine cd_block ?_
      refine cd_loop (σ := Nat) (fun s => [(1, Value.pointer (some ⟨g1, 0, none⟩)), (21, .slice a ns.length ca), (22, .int .i64 ns.length), (23, .int .i64 (s : Int))]) (fun s => [Box g1 [.slice a ns.length ca, .slice b ls.length cb] 28]) (fun s => s ≤ ns.length ∧ ∀ j, j < s → nodeOkAt ns j = true) (fun s => ns.length - s) 0 ⟨Nat.zero_le _, fun j hj => absurd hj (Nat.not_lt_zero j)⟩ ⟨rfl, rfl, rfl, rfl, trivial⟩ (by repeat first | exact sLn _ | apply sLc | apply sLd) ?_
      rintro k ⟨hk, hq⟩
      refine cd_seq ?_
      refine cd_region ?_
      refine at_pure (pv_lss rfl rfl) rfl ?_
      refine at_nil ?_
      refine ex_go ?_
      refine cd_seq ?_
      refine cd_if rfl (fun hlt => ?_) (fun hlt => ?_)
      · skip
        refine cd_skip ?_
        refine ex_go ?_
        refine cd_seq ?_
        refine cd_block ?_
        refine cd_seq ?_
        have hkl : k < ns.length := by simpa using hlt
        obtain ⟨z, hz⟩ := get_of hkl
        have hy : 0 < k → ns[k - 1]? = some (at0 ns (k - 1)) := fun _ => at0_get (by omega)
        refine cd_region ?_
        refine at_pure (pv_move rfl) rfl ?_
        refine at_pure (pv_ix Try.underlying25 cz_70 rfl rfl (by first | omega | (simp only [decide_eq_true_eq, decide_eq_false_iff_not] at *; omega)) hn.real (k := k) (by omega)) rfl ?_
        refine at_pure (pv_elems ag_70 rfl (hn.gets hz) rfl) rfl ?_
        refine at_does (does_alloc ze_70 .agg (fun _ => (.cons .nil))) rfl (fun g2 => ?_)
        refine at_pure (pv_assign rfl) rfl ?_
        refine at_turns (by exact turns_store sz_70 rfl rfl .agg rfl rfl (.s .z) (.rep (.rep (.rep (.rep .done)))) (.s .z)) ?_
        refine at_nil ?_
        refine ex_go ?_
        refine cd_seq ?_
        refine cd_draw' 19 follows ?_
        refine dr_take 0 rfl (by kernel_rfl) (.refl _) (by exact pv_loads_box ag_70 rfl (.s .z) (.take (.take (.take (.take .done))))) rfl ?_
        refine dr_one 1 (by kernel_rfl) rfl ?_
        refine at_does (does_val cal76 rfl rfl rfl (fun w hs => fine_go _ w)) rfl (fun _ => ?_)
        refine at_nil (dr_next (fun _ => (.refl _)) ?_)
        refine dr_take 2 rfl (by kernel_rfl) (.refl _) (pv_not rfl) rfl ?_
        refine dr_take 3 rfl (by kernel_rfl) (.refl _) (pv_move rfl) rfl ?_
        refine dr_split 31 rfl (fun hb4 => ?_) (fun hb4 => ?_)
        · skip
          refine dr_skip 4 rfl rfl rfl hb4 (by kernel_rfl) (.refl _) rfl ?_
          refine dr_skip 5 rfl rfl rfl hb4 (by kernel_rfl) (.refl _) rfl ?_
          refine dr_skip 6 rfl rfl rfl hb4 (by kernel_rfl) (.refl _) rfl ?_
          refine dr_skip_u 7 rfl rfl rfl (by kernel_rfl) (.refl _) rfl ?_
          refine dr_skip_u 8 rfl rfl rfl (by kernel_rfl) (.refl _) rfl ?_
          refine dr_skip_u 9 rfl rfl rfl (by kernel_rfl) (.refl _) rfl ?_
          refine dr_skip_u 10 rfl rfl rfl (by kernel_rfl) (.refl _) rfl ?_
          refine dr_skip_u 11 rfl rfl rfl (by kernel_rfl) (.refl _) rfl ?_
          refine dr_skip_u 12 rfl rfl rfl (by kernel_rfl) (.refl _) rfl ?_
          refine dr_skip_u 13 rfl rfl rfl (by kernel_rfl) (.refl _) rfl ?_
          refine dr_skip_u 14 rfl rfl rfl (by kernel_rfl) (.refl _) rfl ?_
          refine dr_skip_u 15 rfl rfl rfl (by kernel_rfl) (.refl _) rfl ?_
          refine dr_skip_u 16 rfl rfl rfl (by kernel_rfl) (.refl _) rfl ?_
          refine dr_skip 17 rfl rfl rfl hb4 (by kernel_rfl) (.refl _) rfl ?_
          refine dr_take 18 rfl (by kernel_rfl) (.refl _) (pv_pick_t rfl hb4 rfl) rfl ?_
          refine dr_done (by kernel_rfl) ?_
          refine ex_go ?_
          refine cd_then rfl rfl ?_
          refine cd_seq ?_
          refine cd_region ?_
          refine at_pure (pv_assign rfl) rfl ?_
          refine at_nil ?_
          refine ex_go ?_
          refine cd_ret ?_
          refine ex_in_ret (ex_then_ret (ex_then_ret (ex_in_ret (ex_then_ret ?_))))
          exact end_ret1 rfl rfl (fun w hs => ⟨by clear hs; refine congrArg (fun b => Ending.returned (.bool b)) ?_; first | exact (valid_all hb64 hb256 hnodes hlinks).symm | exact (valid_no0 (by simp only [decide_eq_true_eq] at *; omega)).symm | exact (valid_no1 hkl (by rw [nodeAt_eq hz]; simp only [Bool.not_eq_true', Bool.not_eq_false'] at *; simp only [Bool.and_true, Bool.true_and, Bool.and_false, Bool.false_and, Bool.or_true, Bool.true_or, Bool.or_false, Bool.false_or, Bool.not_true, Bool.not_false, *])).symm | exact (valid_no2 hkl (by rw [linkAt_eq hz, hcw]; simp)).symm | exact (valid_no2 hkl (by rw [linkAt_eq hz]; simp only [cmpL_less, Bool.not_eq_true', Bool.not_eq_false'] at *; simp only [Bool.and_true, Bool.true_and, Bool.and_false, Bool.false_and, Bool.or_true, Bool.true_or, Bool.or_false, Bool.false_or, Bool.not_true, Bool.not_false, *])).symm, hs.keep⟩)
        · skip
          refine dr_take_g 4 rfl rfl rfl hb4 (by kernel_rfl) (.refl _) (pv_move rfl) rfl ?_
          refine dr_take_g 5 rfl rfl rfl hb4 (by kernel_rfl) (.refl _) (pv_gtr rfl rfl) rfl ?_
          refine dr_take_g 6 rfl rfl rfl hb4 (by kernel_rfl) (.refl _) (pv_move rfl) rfl ?_
          refine dr_split 34 rfl (fun hb5 => ?_) (fun hb5 => ?_)
          · skip
            refine dr_take_g 7 rfl rfl rfl hb5 (by kernel_rfl) (.refl _) (pv_field0 fa_70_0 rfl (r := 0) rfl) rfl ?_
            refine dr_take_g 8 rfl rfl rfl hb5 (by kernel_rfl) (.refl _) (by exact pv_load ld_3 rfl (box_cell (.s .z) .z)) rfl ?_
            refine dr_take_g 9 rfl rfl rfl hb5 (by kernel_rfl) (.refl _) (pv_field0 fa_28_0 rfl (r := 0) rfl) rfl ?_
            refine dr_take_g 10 rfl rfl rfl hb5 (by kernel_rfl) (.refl _) (by exact pv_load ld_25 rfl (box_cell .z .z)) rfl ?_
            refine dr_take_g 11 rfl rfl rfl hb5 (by kernel_rfl) (.refl _) (pv_move rfl) rfl ?_
            refine dr_take_g 12 rfl rfl rfl hb5 (by kernel_rfl) (.refl _) (by first | exact pv_sub_n rfl rfl (by unfold In64; omega) | exact pv_sub rfl rfl) rfl ?_
            refine dr_take_g 13 rfl rfl rfl hb5 (by kernel_rfl) (.refl _) (pv_ix Try.underlying25 cz_70 rfl rfl (by first | omega | (simp only [decide_eq_true_eq, decide_eq_false_iff_not] at *; omega)) hn.real (k := (k - 1)) (by omega)) rfl ?_
            refine dr_take_g 14 rfl rfl rfl hb5 (by kernel_rfl) (.refl _) (pv_fieldAddr fa_70_0 rfl) rfl ?_
            refine dr_take_g 15 rfl rfl rfl hb5 (by kernel_rfl) (.refl _) (pv_elem ld_3 rfl (hn.get (hy (by first | omega | (simp only [decide_eq_true_eq] at *; omega))) .z)) rfl ?_
            refine dr_take_g 16 rfl rfl rfl hb5 (by kernel_rfl) (.refl _) (pv_leq rfl rfl) rfl ?_
            refine dr_take_g 17 rfl rfl rfl hb4 (by kernel_rfl) (.refl _) (pv_pick_t rfl hb5 rfl) rfl ?_
            refine dr_take 18 rfl (by kernel_rfl) (.refl _) (pv_pick_f rfl hb4 rfl) rfl ?_
            refine dr_done (by kernel_rfl) ?_
            refine ex_go ?_
            refine cd_if rfl (fun hb6 => ?_) (fun hb6 => ?_)
            · skip
              refine cd_seq ?_
              refine cd_region ?_
              refine at_pure (pv_assign rfl) rfl ?_
              refine at_nil ?_
              refine ex_go ?_
              refine cd_ret ?_
              refine ex_in_ret (ex_then_ret (ex_then_ret (ex_in_ret (ex_then_ret ?_))))
              exact end_ret1 rfl rfl (fun w hs => ⟨by clear hs; refine congrArg (fun b => Ending.returned (.bool b)) ?_; first | exact (valid_all hb64 hb256 hnodes hlinks).symm | exact (valid_no0 (by simp only [decide_eq_true_eq] at *; omega)).symm | exact (valid_no1 hkl (by rw [nodeAt_eq hz]; simp only [Bool.not_eq_true', Bool.not_eq_false'] at *; simp only [Bool.and_true, Bool.true_and, Bool.and_false, Bool.false_and, Bool.or_true, Bool.true_or, Bool.or_false, Bool.false_or, Bool.not_true, Bool.not_false, *])).symm | exact (valid_no2 hkl (by rw [linkAt_eq hz, hcw]; simp)).symm | exact (valid_no2 hkl (by rw [linkAt_eq hz]; simp only [cmpL_less, Bool.not_eq_true', Bool.not_eq_false'] at *; simp only [Bool.and_true, Bool.true_and, Bool.and_false, Bool.false_and, Bool.or_true, Bool.true_or, Bool.or_false, Bool.false_or, Bool.not_true, Bool.not_false, *])).symm, hs.keep⟩)
            · skip
              refine cd_skip ?_
              refine ex_in_normal (ex_go ?_)
              refine cd_region ?_
              refine at_pure (by first | exact pv_add_n rfl rfl (by unfold In64; omega) | exact pv_add rfl rfl) rfl ?_
              refine at_pure (pv_move rfl) rfl ?_
              refine at_nil ?_
              have hok : nodeOkAt ns k = true := (by rw [nodeAt_eq hz]; simp only [Bool.not_eq_true', Bool.not_eq_false'] at *; simp only [Bool.and_true, Bool.true_and, Bool.and_false, Bool.false_and, Bool.or_true, Bool.true_or, Bool.or_false, Bool.false_or, Bool.not_true, Bool.not_false, *])
              exact ex_meet (k + 1) ⟨⟨by omega, upto hq hok⟩, by omega⟩ ⟨rfl, rfl, rfl, rfl, trivial⟩ (by repeat first | exact sLn _ | apply sLc | apply sLd)
          · skip
            refine dr_skip 7 rfl rfl rfl hb5 (by kernel_rfl) (.refl _) rfl ?_
            refine dr_skip 8 rfl rfl rfl hb5 (by kernel_rfl) (.refl _) rfl ?_
            refine dr_skip 9 rfl rfl rfl hb5 (by kernel_rfl) (.refl _) rfl ?_
            refine dr_skip 10 rfl rfl rfl hb5 (by kernel_rfl) (.refl _) rfl ?_
            refine dr_skip 11 rfl rfl rfl hb5 (by kernel_rfl) (.refl _) rfl ?_
            refine dr_skip 12 rfl rfl rfl hb5 (by kernel_rfl) (.refl _) rfl ?_
            refine dr_skip 13 rfl rfl rfl hb5 (by kernel_rfl) (.refl _) rfl ?_
            refine dr_skip 14 rfl rfl rfl hb5 (by kernel_rfl) (.refl _) rfl ?_
            refine dr_skip 15 rfl rfl rfl hb5 (by kernel_rfl) (.refl _) rfl ?_
            refine dr_skip 16 rfl rfl rfl hb5 (by kernel_rfl) (.refl _) rfl ?_
            refine dr_take_g 17 rfl rfl rfl hb4 (by kernel_rfl) (.refl _) (pv_pick_f rfl hb5 rfl) rfl ?_
            refine dr_take 18 rfl (by kernel_rfl) (.refl _) (pv_pick_f rfl hb4 rfl) rfl ?_
            refine dr_done (by kernel_rfl) ?_
            refine ex_go ?_
            refine cd_else rfl rfl ?_
            refine cd_skip ?_
            refine ex_in_normal (ex_go ?_)
            refine cd_region ?_
            refine at_pure (by first | exact pv_add_n rfl rfl (by unfold In64; omega) | exact pv_add rfl rfl) rfl ?_
            refine at_pure (pv_move rfl) rfl ?_
            refine at_nil ?_
            have hok : nodeOkAt ns k = true := (by rw [nodeAt_eq hz]; simp only [Bool.not_eq_true', Bool.not_eq_false'] at *; simp only [Bool.and_true, Bool.true_and, Bool.and_false, Bool.false_and, Bool.or_true, Bool.true_or, Bool.or_false, Bool.false_or, Bool.not_true, Bool.not_false, *])
            exact ex_meet (k + 1) ⟨⟨by omega, upto hq hok⟩, by omega⟩ ⟨rfl, rfl, rfl, rfl, trivial⟩ (by repeat first | exact sLn _ | apply sLc | apply sLd)
      · skip
        refine cd_exit ?_
        refine ex_then_exit (ex_then_exit (ex_in (ex_go ?_)))
        refine cd_seq ?_
        have hnodes : ∀ j, j < ns.length → nodeOkAt ns j = true := fun j hj => hq j (by simp at hlt; omega)
        clear hq
        have hN := ids_nodup (asc_of hnodes)
        have hnd := nodeMap_nd hN
        refine cd_region ?_
        refine at_pure (by exact pv_loads_box ag_28 rfl .z (.take (.take .done))) rfl ?_
        refine at_does (does_gives (X := Nat) (val := fun g => .map (some g)) (Δ := fun g => [MapP fQ g (nodeMap ns)]) cal77 rfl rfl rfl (fun w hs => by have h9 := find_go a b ca cb ns ls w (hn.at' hs) (hl.at' hs); exact h9) (fun _ => (.cons .nil))) rfl (fun gm => ?_)
        refine at_pure (pv_assign rfl) rfl ?_
        refine at_nil ?_
        refine ex_go ?_
        refine cd_seq ?_
        refine cd_seq ?_
        refine cd_region ?_
        refine at_pure (pv_field0 fa_28_1 rfl (r := 1) rfl) rfl ?_
        refine at_pure (by exact pv_load ld_26 rfl (box_cell .z (.s .z))) rfl ?_
        refine at_pure (pv_len Try.underlying26 rfl) rfl ?_
        refine at_pure (pv_move rfl) rfl ?_
        refine at_nil ?_
        refine ex_go ?_
        refine cd_block ?_
        refine cd_loop (σ := Nat) (fun s => [(1, Value.pointer (some ⟨g1, 0, none⟩)), (5, .map (some gm)), (51, .slice b ls.length cb), (52, .int .i64 ls.length), (53, .int .i64 (s : Int))]) (fun s => [Box g1 [.slice a ns.length ca, .slice b ls.length cb] 28, MapP fQ gm (nodeMap ns)]) (fun s => s ≤ ls.length ∧ ∀ j, j < s → linkOkAt ns ls j = true) (fun s => ls.length - s) 0 ⟨Nat.zero_le _, fun j hj => absurd hj (Nat.not_lt_zero j)⟩ ⟨rfl, rfl, rfl, rfl, rfl, trivial⟩ (by repeat first | exact sLn _ | apply sLc | apply sLd) ?_
        rintro k ⟨hk, hq⟩
        refine cd_seq ?_
        refine cd_region ?_
        refine at_pure (pv_lss rfl rfl) rfl ?_
        refine at_nil ?_
        refine ex_go ?_
        refine cd_seq ?_
        refine cd_if rfl (fun hlt2 => ?_) (fun hlt2 => ?_)
        · skip
          refine cd_skip ?_
          refine ex_go ?_
          refine cd_seq ?_
          refine cd_block ?_
          refine cd_seq ?_
          have hkl : k < ls.length := by simpa using hlt2
          obtain ⟨z, hz⟩ := get_of hkl
          have hle := hl.le
          have hsm := hl.sm
          have hy : 0 < k → ls[k - 1]? = some (at0 ls (k - 1)) := fun _ => at0_get (by omega)
          refine cd_region ?_
          refine at_pure (pv_move rfl) rfl ?_
          refine at_pure (pv_ix Try.underlying26 cz_61 rfl rfl (by first | omega | (simp only [decide_eq_true_eq, decide_eq_false_iff_not] at *; omega)) hl.real (k := k) (by omega)) rfl ?_
          refine at_pure (pv_elems ag_61 rfl (hl.gets hz) rfl) rfl ?_
          refine at_does (does_alloc ze_61 .agg (fun _ => (.cons (.cons .nil)))) rfl (fun g7 => ?_)
          refine at_pure (pv_assign rfl) rfl ?_
          refine at_turns (by exact turns_store sz_61 rfl rfl .agg rfl rfl (.s (.s .z)) (.rep (.rep (.rep (.rep .done)))) (.s (.s .z))) ?_
          refine at_nil ?_
          refine ex_go ?_
          refine cd_seq ?_
          refine cd_seq ?_
          refine cd_draw' 19 follows ?_
          refine dr_take 0 rfl (by kernel_rfl) (.refl _) (pv_move rfl) rfl ?_
          refine dr_take 1 rfl (by kernel_rfl) (.refl _) (by exact pv_loads_box ag_61 rfl (.s (.s .z)) (.take (.take (.take (.take .done))))) rfl ?_
          refine dr_one 2 (by kernel_rfl) rfl ?_
          refine at_does (does_val cal78 rfl rfl rfl (fun w hs => ends_go ns gm (nodeMap ns) z w (MapP.get (.s .z) w hs) hnd)) rfl (fun _ => ?_)
          refine at_nil (dr_next (fun _ => (.refl _)) ?_)
          refine dr_take 3 rfl (by kernel_rfl) (.refl _) (pv_not rfl) rfl ?_
          refine dr_take 4 rfl (by kernel_rfl) (.refl _) (pv_move rfl) rfl ?_
          refine dr_split 62 rfl (fun hb8 => ?_) (fun hb8 => ?_)
          · skip
            refine dr_skip 5 rfl rfl rfl hb8 (by kernel_rfl) (.refl _) rfl ?_
            refine dr_skip 6 rfl rfl rfl hb8 (by kernel_rfl) (.refl _) rfl ?_
            refine dr_skip 7 rfl rfl rfl hb8 (by kernel_rfl) (.refl _) rfl ?_
            refine dr_skip_u 8 rfl rfl rfl (by kernel_rfl) (.refl _) rfl ?_
            refine dr_skip_u 9 rfl rfl rfl (by kernel_rfl) (.refl _) rfl ?_
            refine dr_skip_u 10 rfl rfl rfl (by kernel_rfl) (.refl _) rfl ?_
            refine dr_skip_u 11 rfl rfl rfl (by kernel_rfl) (.refl _) rfl ?_
            refine dr_skip_u 12 rfl rfl rfl (by kernel_rfl) (.refl _) rfl ?_
            refine dr_skip_u 13 rfl rfl rfl (by kernel_rfl) (.refl _) rfl ?_
            refine dr_skip_u 14 rfl rfl rfl (by kernel_rfl) (.refl _) rfl ?_
            refine dr_skip_u 15 rfl rfl rfl (by kernel_rfl) (.refl _) rfl ?_
            refine dr_skip_u 16 rfl rfl rfl (by kernel_rfl) (.refl _) rfl ?_
            refine dr_skip 17 rfl rfl rfl hb8 (by kernel_rfl) (.refl _) rfl ?_
            refine dr_take 18 rfl (by kernel_rfl) (.refl _) (pv_pick_t rfl hb8 rfl) rfl ?_
            refine dr_done (by kernel_rfl) ?_
            refine ex_go ?_
            refine cd_then rfl rfl ?_
            refine cd_seq ?_
            refine cd_region ?_
            refine at_pure (pv_assign rfl) rfl ?_
            refine at_nil ?_
            refine ex_go ?_
            refine cd_ret ?_
            refine ex_then_ret (ex_in_ret (ex_then_ret (ex_then_ret (ex_in_ret (ex_then_ret ?_)))))
            exact end_ret1 rfl rfl (fun w hs => ⟨by clear hs; refine congrArg (fun b => Ending.returned (.bool b)) ?_; first | exact (valid_all hb64 hb256 hnodes hlinks).symm | exact (valid_no0 (by simp only [decide_eq_true_eq] at *; omega)).symm | exact (valid_no1 hkl (by rw [nodeAt_eq hz]; simp only [Bool.not_eq_true', Bool.not_eq_false'] at *; simp only [Bool.and_true, Bool.true_and, Bool.and_false, Bool.false_and, Bool.or_true, Bool.true_or, Bool.or_false, Bool.false_or, Bool.not_true, Bool.not_false, *])).symm | exact (valid_no2 hkl (by rw [linkAt_eq hz, hcw]; simp)).symm | exact (valid_no2 hkl (by rw [linkAt_eq hz]; simp only [cmpL_less, Bool.not_eq_true', Bool.not_eq_false'] at *; simp only [Bool.and_true, Bool.true_and, Bool.and_false, Bool.false_and, Bool.or_true, Bool.true_or, Bool.or_false, Bool.false_or, Bool.not_true, Bool.not_false, *])).symm, hs.keep⟩)
          · skip
            refine dr_take_g 5 rfl rfl rfl hb8 (by kernel_rfl) (.refl _) (pv_move rfl) rfl ?_
            refine dr_take_g 6 rfl rfl rfl hb8 (by kernel_rfl) (.refl _) (pv_gtr rfl rfl) rfl ?_
            refine dr_take_g 7 rfl rfl rfl hb8 (by kernel_rfl) (.refl _) (pv_move rfl) rfl ?_
            refine dr_split 65 rfl (fun hb9 => ?_) (fun hb9 => ?_)
            · skip
              refine dr_take_g 8 rfl rfl rfl hb9 (by kernel_rfl) (.refl _) (pv_field0 fa_28_1 rfl (r := 1) rfl) rfl ?_
              refine dr_take_g 9 rfl rfl rfl hb9 (by kernel_rfl) (.refl _) (by exact pv_load ld_26 rfl (box_cell .z (.s .z))) rfl ?_
              refine dr_take_g 10 rfl rfl rfl hb9 (by kernel_rfl) (.refl _) (pv_move rfl) rfl ?_
              refine dr_take_g 11 rfl rfl rfl hb9 (by kernel_rfl) (.refl _) (by first | exact pv_sub_n rfl rfl (by unfold In64; omega) | exact pv_sub rfl rfl) rfl ?_
              refine dr_take_g 12 rfl rfl rfl hb9 (by kernel_rfl) (.refl _) (pv_ix Try.underlying26 cz_61 rfl rfl (by first | omega | (simp only [decide_eq_true_eq, decide_eq_false_iff_not] at *; omega)) hl.real (k := (k - 1)) (by omega)) rfl ?_
              refine dr_take_g 13 rfl rfl rfl hb9 (by kernel_rfl) (.refl _) (pv_elems ag_61 rfl (hl.gets (hy (by first | omega | (simp only [decide_eq_true_eq] at *; omega)))) rfl) rfl ?_
              refine dr_take_g 14 rfl rfl rfl hb9 (by kernel_rfl) (.refl _) (by exact pv_loads_box ag_61 rfl (.s (.s .z)) (.take (.take (.take (.take .done))))) rfl ?_
              refine dr_one 15 (by kernel_rfl) rfl ?_
              refine at_does_g rfl rfl hb9 (does_val cal79 rfl rfl rfl (fun w hs => compare_go _ _ w)) rfl (fun _ => ?_)
              refine at_nil (dr_next (fun _ => (.refl _)) ?_)
              refine dr_take_g 16 rfl rfl rfl hb9 (by kernel_rfl) (.refl _) (pv_geq rfl rfl) rfl ?_
              refine dr_take_g 17 rfl rfl rfl hb8 (by kernel_rfl) (.refl _) (pv_pick_t rfl hb9 rfl) rfl ?_
              refine dr_take 18 rfl (by kernel_rfl) (.refl _) (pv_pick_f rfl hb8 rfl) rfl ?_
              refine dr_done (by kernel_rfl) ?_
              refine ex_go ?_
              refine cd_if rfl (fun hb10 => ?_) (fun hb10 => ?_)
              · skip
                refine cd_seq ?_
                refine cd_region ?_
                refine at_pure (pv_assign rfl) rfl ?_
                refine at_nil ?_
                refine ex_go ?_
                refine cd_ret ?_
                refine ex_then_ret (ex_in_ret (ex_then_ret (ex_then_ret (ex_in_ret (ex_then_ret ?_)))))
                exact end_ret1 rfl rfl (fun w hs => ⟨by clear hs; refine congrArg (fun b => Ending.returned (.bool b)) ?_; first | exact (valid_all hb64 hb256 hnodes hlinks).symm | exact (valid_no0 (by simp only [decide_eq_true_eq] at *; omega)).symm | exact (valid_no1 hkl (by rw [nodeAt_eq hz]; simp only [Bool.not_eq_true', Bool.not_eq_false'] at *; simp only [Bool.and_true, Bool.true_and, Bool.and_false, Bool.false_and, Bool.or_true, Bool.true_or, Bool.or_false, Bool.false_or, Bool.not_true, Bool.not_false, *])).symm | exact (valid_no2 hkl (by rw [linkAt_eq hz, hcw]; simp)).symm | exact (valid_no2 hkl (by rw [linkAt_eq hz]; simp only [cmpL_less, Bool.not_eq_true', Bool.not_eq_false'] at *; simp only [Bool.and_true, Bool.true_and, Bool.and_false, Bool.false_and, Bool.or_true, Bool.true_or, Bool.or_false, Bool.false_or, Bool.not_true, Bool.not_false, *])).symm, hs.keep⟩)
              · skip
                refine cd_skip ?_
                refine ex_go ?_
                refine cd_seq ?_
                have hok0 : (ports ns z && !(decide (0 < (k : Int)) && !less (at0 ls (k - 1)) z)) = true := by simp only [cmpL_less, Bool.not_eq_true', Bool.not_eq_false'] at *; simp only [Bool.and_true, Bool.true_and, Bool.and_false, Bool.false_and, Bool.or_true, Bool.true_or, Bool.or_false, Bool.false_or, Bool.not_true, Bool.not_false, *]
                refine cd_region ?_
                refine at_pure (pv_field0 fa_28_1 rfl (r := 1) rfl) rfl ?_
                refine at_pure (by exact pv_load ld_26 rfl (box_cell .z (.s .z))) rfl ?_
                refine at_pure (pv_move rfl) rfl ?_
                refine at_pure (pv_cut_to Try.underlying26 cz_61 rfl rfl (by omega) (k := (ls.take k).length) (by rw [List.length_take]; omega)) rfl ?_
                refine at_pure (pv_len Try.underlying26 rfl) rfl ?_
                refine at_pure (pv_move rfl) rfl ?_
                refine at_nil ?_
                refine ex_go ?_
                refine cd_block ?_
                refine cd_loop (σ := Nat) (fun s => [(1, Value.pointer (some ⟨g1, 0, none⟩)), (5, .map (some gm)), (51, .slice b ls.length cb), (52, .int .i64 ls.length), (53, .int .i64 (k : Int)), (7, Value.pointer (some ⟨g7, 0, none⟩)), (80, .slice b (ls.take k).length cb), (81, .int .i64 (ls.take k).length), (82, .int .i64 (s : Int))]) (fun s => [Box g1 [.slice a ns.length ca, .slice b ls.length cb] 28, MapP fQ gm (nodeMap ns), Box g7 (enc4 z) 61]) (fun s => s ≤ (ls.take k).length ∧ crowded ns z (ls.take k) = crowded ns z ((ls.take k).drop s)) (fun s => (ls.take k).length - s) 0 ⟨Nat.zero_le _, rfl⟩ ⟨rfl, rfl, rfl, rfl, rfl, rfl, rfl, rfl, rfl, trivial⟩ (by repeat first | exact sLn _ | apply sLc | apply sLd) ?_
                rintro j ⟨hj, hq2⟩
                refine cd_seq ?_
                refine cd_region ?_
                refine at_pure (pv_lss rfl rfl) rfl ?_
                refine at_nil ?_
                refine ex_go ?_
                refine cd_seq ?_
                refine cd_if rfl (fun hlt3 => ?_) (fun hlt3 => ?_)
                · have htl : (ls.take k).length ≤ ls.length := by rw [List.length_take]; omega
                  have hjl : j < (ls.take k).length := by simpa using hlt3
                  obtain ⟨y, hy⟩ := get_of hjl
                  refine cd_skip ?_
                  refine ex_go ?_
                  refine cd_seq ?_
                  refine cd_block ?_
                  refine cd_seq ?_
                  refine cd_region ?_
                  refine at_pure (pv_ix Try.underlying26 cz_61 rfl rfl (by first | omega | (simp only [decide_eq_true_eq, decide_eq_false_iff_not] at *; omega)) (hl.take k).real (k := j) (by omega)) rfl ?_
                  refine at_pure (pv_elems ag_61 rfl ((hl.take k).gets hy) rfl) rfl ?_
                  refine at_does (does_alloc ze_61 .agg (fun _ => (.cons (.cons (.cons .nil))))) rfl (fun g4 => ?_)
                  refine at_turns (by exact turns_store sz_61 rfl rfl .agg rfl rfl (.s (.s (.s .z))) (.rep (.rep (.rep (.rep .done)))) (.s (.s (.s .z)))) ?_
                  refine at_nil ?_
                  refine ex_go ?_
                  refine cd_seq ?_
                  refine cd_region ?_
                  refine at_pure (pv_move rfl) rfl ?_
                  refine at_pure (by exact pv_loads_box ag_61 rfl (.s (.s (.s .z))) (.take (.take (.take (.take .done))))) rfl ?_
                  refine at_pure (by exact pv_loads_box ag_61 rfl (.s (.s .z)) (.take (.take (.take (.take .done))))) rfl ?_
                  refine at_does (does_val cal80 rfl rfl rfl (fun w hs => clash_go ns gm (nodeMap ns) y z w (MapP.get (.s .z) w hs) hnd)) rfl (fun _ => ?_)
                  refine at_nil ?_
                  refine ex_go ?_
                  refine cd_if rfl (fun hb12 => ?_) (fun hb12 => ?_)
                  · skip
                    refine cd_seq ?_
                    have hcw : crowded ns z (ls.take k) = true := by rw [hq2, drop_of hy]; unfold crowded; rw [List.any_cons, show clash ns y z = true by assumption, Bool.true_or]
                    refine cd_region ?_
                    refine at_pure (pv_assign rfl) rfl ?_
                    refine at_nil ?_
                    refine ex_go ?_
                    refine cd_ret ?_
                    refine ex_in_ret (ex_then_ret (ex_then_ret (ex_in_ret (ex_in_ret (ex_then_ret (ex_then_ret (ex_in_ret (ex_then_ret ?_))))))))
                    exact end_ret1 rfl rfl (fun w hs => ⟨by clear hs; refine congrArg (fun b => Ending.returned (.bool b)) ?_; first | exact (valid_all hb64 hb256 hnodes hlinks).symm | exact (valid_no0 (by simp only [decide_eq_true_eq] at *; omega)).symm | exact (valid_no1 hkl (by rw [nodeAt_eq hz]; simp only [Bool.not_eq_true', Bool.not_eq_false'] at *; simp only [Bool.and_true, Bool.true_and, Bool.and_false, Bool.false_and, Bool.or_true, Bool.true_or, Bool.or_false, Bool.false_or, Bool.not_true, Bool.not_false, *])).symm | exact (valid_no2 hkl (by rw [linkAt_eq hz, hcw]; simp)).symm | exact (valid_no2 hkl (by rw [linkAt_eq hz]; simp only [cmpL_less, Bool.not_eq_true', Bool.not_eq_false'] at *; simp only [Bool.and_true, Bool.true_and, Bool.and_false, Bool.false_and, Bool.or_true, Bool.true_or, Bool.or_false, Bool.false_or, Bool.not_true, Bool.not_false, *])).symm, hs.keep⟩)
                  · skip
                    refine cd_skip ?_
                    refine ex_in_normal (ex_go ?_)
                    refine cd_region ?_
                    refine at_pure (by first | exact pv_add_n rfl rfl (by unfold In64; omega) | exact pv_add rfl rfl) rfl ?_
                    refine at_pure (pv_move rfl) rfl ?_
                    refine at_nil ?_
                    exact ex_meet (j + 1) ⟨⟨by omega, by rw [hq2, drop_of hy]; unfold crowded; rw [List.any_cons, show clash ns y z = false by assumption, Bool.false_or]⟩, by omega⟩ ⟨rfl, rfl, rfl, rfl, rfl, rfl, rfl, rfl, rfl, trivial⟩ (by repeat first | exact sLn _ | apply sLc | apply sLd)
                · have hcw : crowded ns z (ls.take k) = false := by rw [hq2, List.drop_eq_nil_of_le (by simp only [decide_eq_false_iff_not] at hlt3; omega)]; rfl
                  have hok : linkOkAt ns ls k = true := by rw [linkAt_eq hz, hok0, hcw]; rfl
                  refine cd_exit ?_
                  refine ex_then_exit (ex_then_exit (ex_in (ex_in_normal (ex_go ?_))))
                  refine cd_region ?_
                  refine at_pure (by first | exact pv_add_n rfl rfl (by unfold In64; omega) | exact pv_add rfl rfl) rfl ?_
                  refine at_pure (pv_move rfl) rfl ?_
                  refine at_nil ?_
                  exact ex_meet (k + 1) ⟨⟨by omega, upto hq hok⟩, by omega⟩ ⟨rfl, rfl, rfl, rfl, rfl, trivial⟩ (by repeat first | exact sLn _ | apply sLc | apply sLd)
            · skip
              refine dr_skip 8 rfl rfl rfl hb9 (by kernel_rfl) (.refl _) rfl ?_
              refine dr_skip 9 rfl rfl rfl hb9 (by kernel_rfl) (.refl _) rfl ?_
              refine dr_skip 10 rfl rfl rfl hb9 (by kernel_rfl) (.refl _) rfl ?_
              refine dr_skip 11 rfl rfl rfl hb9 (by kernel_rfl) (.refl _) rfl ?_
              refine dr_skip 12 rfl rfl rfl hb9 (by kernel_rfl) (.refl _) rfl ?_
              refine dr_skip 13 rfl rfl rfl hb9 (by kernel_rfl) (.refl _) rfl ?_
              refine dr_skip 14 rfl rfl rfl hb9 (by kernel_rfl) (.refl _) rfl ?_
              refine dr_skip 15 rfl rfl rfl hb9 (by kernel_rfl) (.refl _) rfl ?_
              refine dr_skip 16 rfl rfl rfl hb9 (by kernel_rfl) (.refl _) rfl ?_
              refine dr_take_g 17 rfl rfl rfl hb8 (by kernel_rfl) (.refl _) (pv_pick_f rfl hb9 rfl) rfl ?_
              refine dr_take 18 rfl (by kernel_rfl) (.refl _) (pv_pick_f rfl hb8 rfl) rfl ?_
              refine dr_done (by kernel_rfl) ?_
              refine ex_go ?_
              refine cd_else rfl rfl ?_
              refine cd_skip ?_
              refine ex_go ?_
              refine cd_seq ?_
              have hok0 : (ports ns z && !(decide (0 < (k : Int)) && !less (at0 ls (k - 1)) z)) = true := by simp only [cmpL_less, Bool.not_eq_true', Bool.not_eq_false'] at *; simp only [Bool.and_true, Bool.true_and, Bool.and_false, Bool.false_and, Bool.or_true, Bool.true_or, Bool.or_false, Bool.false_or, Bool.not_true, Bool.not_false, *]
              refine cd_region ?_
              refine at_pure (pv_field0 fa_28_1 rfl (r := 1) rfl) rfl ?_
              refine at_pure (by exact pv_load ld_26 rfl (box_cell .z (.s .z))) rfl ?_
              refine at_pure (pv_move rfl) rfl ?_
              refine at_pure (pv_cut_to Try.underlying26 cz_61 rfl rfl (by omega) (k := (ls.take k).length) (by rw [List.length_take]; omega)) rfl ?_
              refine at_pure (pv_len Try.underlying26 rfl) rfl ?_
              refine at_pure (pv_move rfl) rfl ?_
              refine at_nil ?_
              refine ex_go ?_
              refine cd_block ?_
              refine cd_loop (σ := Nat) (fun s => [(1, Value.pointer (some ⟨g1, 0, none⟩)), (5, .map (some gm)), (51, .slice b ls.length cb), (52, .int .i64 ls.length), (53, .int .i64 (k : Int)), (7, Value.pointer (some ⟨g7, 0, none⟩)), (80, .slice b (ls.take k).length cb), (81, .int .i64 (ls.take k).length), (82, .int .i64 (s : Int))]) (fun s => [Box g1 [.slice a ns.length ca, .slice b ls.length cb] 28, MapP fQ gm (nodeMap ns), Box g7 (enc4 z) 61]) (fun s => s ≤ (ls.take k).length ∧ crowded ns z (ls.take k) = crowded ns z ((ls.take k).drop s)) (fun s => (ls.take k).length - s) 0 ⟨Nat.zero_le _, rfl⟩ ⟨rfl, rfl, rfl, rfl, rfl, rfl, rfl, rfl, rfl, trivial⟩ (by repeat first | exact sLn _ | apply sLc | apply sLd) ?_
              rintro j ⟨hj, hq2⟩
              refine cd_seq ?_
              refine cd_region ?_
              refine at_pure (pv_lss rfl rfl) rfl ?_
              refine at_nil ?_
              refine ex_go ?_
              refine cd_seq ?_
              refine cd_if rfl (fun hlt3 => ?_) (fun hlt3 => ?_)
              · have htl : (ls.take k).length ≤ ls.length := by rw [List.length_take]; omega
                have hjl : j < (ls.take k).length := by simpa using hlt3
                obtain ⟨y, hy⟩ := get_of hjl
                refine cd_skip ?_
                refine ex_go ?_
                refine cd_seq ?_
                refine cd_block ?_
                refine cd_seq ?_
                refine cd_region ?_
                refine at_pure (pv_ix Try.underlying26 cz_61 rfl rfl (by first | omega | (simp only [decide_eq_true_eq, decide_eq_false_iff_not] at *; omega)) (hl.take k).real (k := j) (by omega)) rfl ?_
                refine at_pure (pv_elems ag_61 rfl ((hl.take k).gets hy) rfl) rfl ?_
                refine at_does (does_alloc ze_61 .agg (fun _ => (.cons (.cons (.cons .nil))))) rfl (fun g5 => ?_)
                refine at_turns (by exact turns_store sz_61 rfl rfl .agg rfl rfl (.s (.s (.s .z))) (.rep (.rep (.rep (.rep .done)))) (.s (.s (.s .z)))) ?_
                refine at_nil ?_
                refine ex_go ?_
                refine cd_seq ?_
                refine cd_region ?_
                refine at_pure (pv_move rfl) rfl ?_
                refine at_pure (by exact pv_loads_box ag_61 rfl (.s (.s (.s .z))) (.take (.take (.take (.take .done))))) rfl ?_
                refine at_pure (by exact pv_loads_box ag_61 rfl (.s (.s .z)) (.take (.take (.take (.take .done))))) rfl ?_
                refine at_does (does_val cal80 rfl rfl rfl (fun w hs => clash_go ns gm (nodeMap ns) y z w (MapP.get (.s .z) w hs) hnd)) rfl (fun _ => ?_)
                refine at_nil ?_
                refine ex_go ?_
                refine cd_if rfl (fun hb14 => ?_) (fun hb14 => ?_)
                · skip
                  refine cd_seq ?_
                  have hcw : crowded ns z (ls.take k) = true := by rw [hq2, drop_of hy]; unfold crowded; rw [List.any_cons, show clash ns y z = true by assumption, Bool.true_or]
                  refine cd_region ?_
                  refine at_pure (pv_assign rfl) rfl ?_
                  refine at_nil ?_
                  refine ex_go ?_
                  refine cd_ret ?_
                  refine ex_in_ret (ex_then_ret (ex_then_ret (ex_in_ret (ex_in_ret (ex_then_ret (ex_then_ret (ex_in_ret (ex_then_ret ?_))))))))
                  exact end_ret1 rfl rfl (fun w hs => ⟨by clear hs; refine congrArg (fun b => Ending.returned (.bool b)) ?_; first | exact (valid_all hb64 hb256 hnodes hlinks).symm | exact (valid_no0 (by simp only [decide_eq_true_eq] at *; omega)).symm | exact (valid_no1 hkl (by rw [nodeAt_eq hz]; simp only [Bool.not_eq_true', Bool.not_eq_false'] at *; simp only [Bool.and_true, Bool.true_and, Bool.and_false, Bool.false_and, Bool.or_true, Bool.true_or, Bool.or_false, Bool.false_or, Bool.not_true, Bool.not_false, *])).symm | exact (valid_no2 hkl (by rw [linkAt_eq hz, hcw]; simp)).symm | exact (valid_no2 hkl (by rw [linkAt_eq hz]; simp only [cmpL_less, Bool.not_eq_true', Bool.not_eq_false'] at *; simp only [Bool.and_true, Bool.true_and, Bool.and_false, Bool.false_and, Bool.or_true, Bool.true_or, Bool.or_false, Bool.false_or, Bool.not_true, Bool.not_false, *])).symm, hs.keep⟩)
                · skip
                  refine cd_skip ?_
                  refine ex_in_normal (ex_go ?_)
                  refine cd_region ?_
                  refine at_pure (by first | exact pv_add_n rfl rfl (by unfold In64; omega) | exact pv_add rfl rfl) rfl ?_
                  refine at_pure (pv_move rfl) rfl ?_
                  refine at_nil ?_
                  exact ex_meet (j + 1) ⟨⟨by omega, by rw [hq2, drop_of hy]; unfold crowded; rw [List.any_cons, show clash ns y z = false by assumption, Bool.false_or]⟩, by omega⟩ ⟨rfl, rfl, rfl, rfl, rfl, rfl, rfl, rfl, rfl, trivial⟩ (by repeat first | exact sLn _ | apply sLc | apply sLd)
              · have hcw : crowded ns z (ls.take k) = false := by rw [hq2, List.drop_eq_nil_of_le (by simp only [decide_eq_false_iff_not] at hlt3; omega)]; rfl
                have hok : linkOkAt ns ls k = true := by rw [linkAt_eq hz, hok0, hcw]; rfl
                refine cd_exit ?_
                refine ex_then_exit (ex_then_exit (ex_in (ex_in_normal (ex_go ?_))))
                refine cd_region ?_
                refine at_pure (by first | exact pv_add_n rfl rfl (by unfold In64; omega) | exact pv_add rfl rfl) rfl ?_
                refine at_pure (pv_move rfl) rfl ?_
                refine at_nil ?_
                exact ex_meet (k + 1) ⟨⟨by omega, upto hq hok⟩, by omega⟩ ⟨rfl, rfl, rfl, rfl, rfl, trivial⟩ (by repeat first | exact sLn _ | apply sLc | apply sLd)
        · skip
          refine cd_exit ?_
          refine ex_then_exit (ex_then_exit (ex_in (ex_go ?_)))
          refine cd_seq ?_
          have hlinks : ∀ j, j < ls.length → linkOkAt ns ls j = true := fun j hj => hq j (by simp at hlt2; omega)
          refine cd_draw' 7 follows ?_
          refine dr_take 0 rfl (by kernel_rfl) (.refl _) (by exact pv_loads_box ag_28 rfl .z (.take (.take .done))) rfl ?_
          refine dr_take 3 rfl (by kernel_rfl) (.refl _) (pv_field0 fa_28_0 rfl (r := 0) rfl) rfl ?_
          refine dr_take 4 rfl (by kernel_rfl) (.refl _) (by exact pv_load ld_25 rfl (box_cell .z .z)) rfl ?_
          refine dr_take 5 rfl (by kernel_rfl) (.refl _) (pv_len Try.underlying25 rfl) rfl ?_
          refine dr_one 1 (by kernel_rfl) rfl ?_
          refine at_does (does_gives (X := Option Addr × Nat) (val := fun z => .slice z.1 (orderS ns ls).length z.2) (Δ := fun z => [RowP enc1 1 3 z.1 z.2 (orderS ns ls)]) cal81 rfl rfl rfl (fun w hs => by have h9 := order_go a b ca cb ns ls w (hn.at' hs) (hl.at' hs) hb64 hb256 (pos_of hnodes) hN; exact h9) (fun _ => (.cons (.cons .nil)))) rfl (fun z9 => ?_)
          refine at_nil (dr_next (fun _ => (by repeat first | exact sLn _ | apply sLc | apply sLd)) ?_)
          refine dr_take 2 rfl (by kernel_rfl) (by repeat first | exact sLn _ | apply sLc | apply sLd) (pv_len Try.underlying22 rfl) rfl ?_
          refine dr_take 6 rfl (by kernel_rfl) (by repeat first | exact sLn _ | apply sLc | apply sLd) (pv_eql rfl rfl) rfl ?_
          refine dr_one 7 (by kernel_rfl) rfl ?_
          refine at_pure (pv_assign rfl) rfl ?_
          refine at_nil (dr_next (fun h => by cases h) ?_)
          refine dr_done (by kernel_rfl) ?_
          refine ex_go ?_
          refine cd_ret ?_
          exact end_ret1 rfl rfl (fun w hs => ⟨by clear hs; refine congrArg (fun b => Ending.returned (.bool b)) ?_; first | exact (valid_all hb64 hb256 hnodes hlinks).symm | exact (valid_no0 (by simp only [decide_eq_true_eq] at *; omega)).symm | exact (valid_no1 hkl (by rw [nodeAt_eq hz]; simp only [Bool.not_eq_true', Bool.not_eq_false'] at *; simp only [Bool.and_true, Bool.true_and, Bool.and_false, Bool.false_and, Bool.or_true, Bool.true_or, Bool.or_false, Bool.false_or, Bool.not_true, Bool.not_false, *])).symm | exact (valid_no2 hkl (by rw [linkAt_eq hz, hcw]; simp)).symm | exact (valid_no2 hkl (by rw [linkAt_eq hz]; simp only [cmpL_less, Bool.not_eq_true', Bool.not_eq_false'] at *; simp only [Bool.and_true, Bool.true_and, Bool.and_false, Bool.false_and, Bool.or_true, Bool.true_or, Bool.or_false, Bool.false_or, Bool.not_true, Bool.not_false, *])).symm, hs.keep⟩)

theorem order2_go (a b : Option Addr) (ca cb : Nat) (ns ls : List Q4) (w : World) (hn : Sl [] enc4 4 w a ca ns) (hl : Sl [] enc4 4 w b cb ls) (hv : validS ns ls = true) : Calls Try.prog 56 [.agg #[.slice a ns.length ca, .slice b ls.length cb]].toArray w (Gives (fun z : Option Addr × Nat => .tuple #[.slice z.1 (orderS ns ls).length z.2, .int .i64 0]) (fun z => [RowP enc1 1 3 z.1 z.2 (orderS ns ls)]) w) := by
  refine calls_body (n := 9) Try.func56 rfl rfl rfl (St.init _ []) ?_
  refine cd_seq ?_
  refine cd_region ?_
  refine at_does (does_box rfl .agg (fun _ => .nil)) rfl (fun g1 => ?_)
  refine at_pure (pv_assign rfl) rfl ?_
  refine at_pure (pv_assign rfl) rfl ?_
  refine at_nil ?_
  refine ex_go ?_
  refine cd_seq ?_
  refine cd_seq ?_
  have hvf := valid_facts hv
  refine cd_region ?_
  refine at_pure (by exact pv_loads_box ag_28 rfl .z (.take (.take .done))) rfl ?_
  refine at_does (does_val cal54 rfl rfl rfl (fun w hs => valid_go _ _ _ _ _ _ w (hn.at' hs) (hl.at' hs))) rfl (fun _ => ?_)
  refine at_pure (pv_not rfl) rfl ?_
  refine at_nil ?_
  refine ex_go ?_
  refine cd_if rfl (fun hb1 => ?_) (fun hb1 => ?_)
  · exact absurd hv (by simp at hb1; simp [hb1])
  · skip
    refine cd_skip ?_
    refine ex_go ?_
    refine cd_seq ?_
    refine cd_region ?_
    refine at_pure (by exact pv_loads_box ag_28 rfl .z (.take (.take .done))) rfl ?_
    refine at_does (does_gives (X := Option Addr × Nat) (val := fun z => .slice z.1 (orderS ns ls).length z.2) (Δ := fun z => [RowP enc1 1 3 z.1 z.2 (orderS ns ls)]) cal81 rfl rfl rfl (fun w hs => by have h9 := order_go a b ca cb ns ls w (hn.at' hs) (hl.at' hs) hvf.1 hvf.2.1 (pos_of hvf.2.2.1) (ids_nodup (asc_of hvf.2.2.1)); exact h9) (fun _ => (.cons .nil))) rfl (fun z9 => ?_)
    refine at_pure (pv_assign rfl) rfl ?_
    refine at_pure (pv_assign rfl) rfl ?_
    refine at_nil ?_
    refine ex_go ?_
    refine cd_ret ?_
    exact end_ret2 rfl rfl rfl (fun w hs => Gives.mk' z9 rfl (by repeat first | exact sLn _ | apply sLc | apply sLd) hs)

def linksTo (i : Int) (ls : List Q4) : List Q4 := ls.filter fun l => l.2.2.1 == i
theorem linksTo_yes {i : Int} {ls : List Q4} {k : Nat} {z : Q4} (hz : ls[k]? = some z) (h : z.2.2.1 = i) : linksTo i (ls.take (k + 1)) = linksTo i (ls.take k) ++ [z] := by
  unfold linksTo
  rw [List.take_add_one, hz, List.filter_append]
  simp [h]
theorem linksTo_no {i : Int} {ls : List Q4} {k : Nat} {z : Q4} (hz : ls[k]? = some z) (h : ¬ z.2.2.1 = i) : linksTo i (ls.take (k + 1)) = linksTo i (ls.take k) := by
  unfold linksTo
  rw [List.take_add_one, hz, List.filter_append]
  simp [h]
theorem linksTo_len (i : Int) (ls : List Q4) : (linksTo i ls).length ≤ ls.length := List.length_filter_le ..

theorem inputs_go (a b : Option Addr) (ca cb : Nat) (ns ls : List Q4) (i : Int) (w : World) (hn : Sl [] enc4 4 w a ca ns) (hl : Sl [] enc4 4 w b cb ls) (hv : validS ns ls = true) : Calls Try.prog 57 [.agg #[.slice a ns.length ca, .slice b ls.length cb], .int .i64 i].toArray w (Gives (fun z : Option Addr × Nat => .slice z.1 (linksTo i ls).length z.2) (fun z => [RowP enc4 4 61 z.1 z.2 (linksTo i ls)]) w) := by
  refine calls_body (n := 27) Try.func57 rfl rfl rfl (St.init _ []) ?_
  refine cd_seq ?_
  refine cd_region ?_
  refine at_does (does_box rfl .agg (fun _ => .nil)) rfl (fun g1 => ?_)
  refine at_pure (pv_assign rfl) rfl ?_
  refine at_nil ?_
  refine ex_go ?_
  refine cd_seq ?_
  refine Cd.addNil 61 enc4 4 (.cons .nil) ?_
  refine cd_region ?_
  refine at_pure (pv_assign rfl) rfl ?_
  refine at_nil ?_
  refine ex_go ?_
  refine cd_seq ?_
  refine cd_seq ?_
  refine cd_region ?_
  refine at_pure (by exact pv_loads_box ag_28 rfl .z (.take (.take .done))) rfl ?_
  refine at_does (does_val cal54 rfl rfl rfl (fun w hs => valid_go _ _ _ _ _ _ w (hn.at' hs) (hl.at' hs))) rfl (fun _ => ?_)
  refine at_nil ?_
  refine ex_go ?_
  refine cd_if rfl (fun hb1 => ?_) (fun hb1 => ?_)
  · skip
    refine cd_seq ?_
    have hvf := valid_facts hv
    refine cd_region ?_
    refine at_pure (pv_field0 fa_28_1 rfl (r := 1) rfl) rfl ?_
    refine at_pure (by exact pv_load ld_26 rfl (box_cell .z (.s .z))) rfl ?_
    refine at_pure (pv_len Try.underlying26 rfl) rfl ?_
    refine at_pure (pv_move rfl) rfl ?_
    refine at_nil ?_
    refine ex_go ?_
    refine cd_block ?_
    refine cd_loop (σ := Nat × Option Addr × Nat) (fun s => [(1, .int .i64 i), (5, .slice s.2.1 (linksTo i (ls.take s.1)).length s.2.2), (11, .slice b ls.length cb), (12, .int .i64 ls.length), (13, .int .i64 (s.1 : Int))]) (fun s => [RowP enc4 4 61 s.2.1 s.2.2 (linksTo i (ls.take s.1))]) (fun s => s.1 ≤ ls.length) (fun s => ls.length - s.1) (0, none, 0) (Nat.zero_le _) ⟨rfl, rfl, rfl, rfl, rfl, trivial⟩ (by repeat first | exact sLn _ | apply sLc | apply sLd) ?_
    rintro ⟨k, oa, oc⟩ hk
    dsimp only at hk ⊢
    refine cd_seq ?_
    refine cd_region ?_
    refine at_pure (pv_lss rfl rfl) rfl ?_
    refine at_nil ?_
    refine ex_go ?_
    refine cd_seq ?_
    refine cd_if rfl (fun hlt => ?_) (fun hlt => ?_)
    · skip
      refine cd_skip ?_
      refine ex_go ?_
      refine cd_seq ?_
      refine cd_block ?_
      refine cd_seq ?_
      have hkl : k < ls.length := by simpa using hlt
      obtain ⟨z, hz⟩ := get_of hkl
      have hsm := hl.sm
      refine cd_region ?_
      refine at_pure (pv_ix Try.underlying26 cz_61 rfl rfl (by first | omega | (simp only [decide_eq_true_eq, decide_eq_false_iff_not] at *; omega)) hl.real (k := k) (by omega)) rfl ?_
      refine at_pure (pv_elems ag_61 rfl (hl.gets hz) rfl) rfl ?_
      refine at_does (does_alloc ze_61 .agg (fun _ => (.cons .nil))) rfl (fun g2 => ?_)
      refine at_turns (by exact turns_store sz_61 rfl rfl .agg rfl rfl (.s .z) (.rep (.rep (.rep (.rep .done)))) (.s .z)) ?_
      refine at_nil ?_
      refine ex_go ?_
      refine cd_seq ?_
      refine cd_region ?_
      refine at_pure (pv_field0 fa_61_2 rfl (r := 2) rfl) rfl ?_
      refine at_pure (by exact pv_load ld_3 rfl (box_cell (.s .z) (.s (.s .z)))) rfl ?_
      refine at_pure (pv_move rfl) rfl ?_
      refine at_pure (pv_eql rfl rfl) rfl ?_
      refine at_nil ?_
      refine ex_go ?_
      refine cd_if rfl (fun hb3 => ?_) (fun hb3 => ?_)
      · skip
        refine cd_region ?_
        refine at_pure (pv_move rfl) rfl ?_
        refine at_pure (by exact pv_loads_box ag_61 rfl (.s .z) (.take (.take (.take (.take .done))))) rfl ?_
        refine at_does (does_list (by rfl) (by exact (bs_26_1_0 _ _ _ _)) (by exact (fun _ => (.cons (.cons .nil))))) rfl (fun g3 => ?_)
        refine at_hands (does_app (ys := [z]) ⟨len4, by decide, one4⟩ Try.underlying26 ap_61 rfl rfl rfl .z (fun w hs => hs.box1 (enc := enc4) (z := z) (.s (.s .z))) (by have hq9 := linksTo_len i (ls.take k); rw [List.length_take] at hq9; simp only [List.length_singleton]; omega) (by simp) (fun _ _ => .z)) rfl (fun a9 c9 hr4 hc4 => ?_)
        refine at_pure (pv_assign rfl) rfl ?_
        refine at_nil ?_
        refine ex_in_normal (ex_go ?_)
        refine cd_region ?_
        refine at_pure (by first | exact pv_add_n rfl rfl (by unfold In64; omega) | exact pv_add rfl rfl) rfl ?_
        refine at_pure (pv_move rfl) rfl ?_
        refine at_nil ?_
        first | exact ex_meet (k + 1, a9, c9) ⟨by dsimp only; omega, by dsimp only; omega⟩ ⟨rfl, by rw [linksTo_yes hz (beq_iff_eq.1 (by assumption))]; rfl, rfl, rfl, rfl, trivial⟩ (by dsimp only; rw [linksTo_yes hz (beq_iff_eq.1 (by assumption))]; repeat first | exact sLn _ | apply sLc | apply sLd) | exact ex_meet (k + 1, oa, oc) ⟨by dsimp only; omega, by dsimp only; omega⟩ ⟨rfl, by rw [linksTo_no hz (beq_eq_false_iff_ne.1 (by assumption))]; rfl, rfl, rfl, rfl, trivial⟩ (by dsimp only; rw [linksTo_no hz (beq_eq_false_iff_ne.1 (by assumption))]; repeat first | exact sLn _ | apply sLc | apply sLd)
      · skip
        refine cd_skip ?_
        refine ex_in_normal (ex_go ?_)
        refine cd_region ?_
        refine at_pure (by first | exact pv_add_n rfl rfl (by unfold In64; omega) | exact pv_add rfl rfl) rfl ?_
        refine at_pure (pv_move rfl) rfl ?_
        refine at_nil ?_
        first | exact ex_meet (k + 1, a9, c9) ⟨by dsimp only; omega, by dsimp only; omega⟩ ⟨rfl, by rw [linksTo_yes hz (beq_iff_eq.1 (by assumption))]; rfl, rfl, rfl, rfl, trivial⟩ (by dsimp only; rw [linksTo_yes hz (beq_iff_eq.1 (by assumption))]; repeat first | exact sLn _ | apply sLc | apply sLd) | exact ex_meet (k + 1, oa, oc) ⟨by dsimp only; omega, by dsimp only; omega⟩ ⟨rfl, by rw [linksTo_no hz (beq_eq_false_iff_ne.1 (by assumption))]; rfl, rfl, rfl, rfl, trivial⟩ (by dsimp only; rw [linksTo_no hz (beq_eq_false_iff_ne.1 (by assumption))]; repeat first | exact sLn _ | apply sLc | apply sLd)
    · skip
      refine cd_exit ?_
      refine ex_then_exit (ex_then_exit (ex_in (ex_go ?_)))
      refine cd_seq ?_
      refine cd_region ?_
      refine at_pure (pv_move rfl) rfl ?_
      refine at_pure (pv_assign rfl) rfl ?_
      refine at_nil ?_
      refine ex_go ?_
      refine cd_ret ?_
      exact end_ret1 rfl rfl (fun w hs => by have hkk : k = ls.length := (by simp at hlt; omega); subst hkk; rw [List.take_length] at hs; exact Gives.mk' (oa, oc) (by rw [List.take_length]) (by repeat first | exact sLn _ | apply sLc | apply sLd) hs)
  · exact absurd hv (by simp [hb1])

end Go.Proofs.Ytkejdfnpbkdllaa
