/- The reference: Remove, Disconnect. -/
import Derived.Test.YtkejdfnpbkdllaaRemF
import Derived.Test.YtkejdfnpbkdllaaG22b
import Derived.Test.YtkejdfnpbkdllaaMonoP
set_option linter.unusedVariables false
set_option linter.unusedSimpArgs false
set_option maxRecDepth 20000
namespace Go.Proofs.Ytkejdfnpbkdllaa
open Go Go.RowKit Go.Proofs.YtkejdfnpbkdllaaV
theorem remN_yes {ns : List Q4} {k : Nat} {z : Q4} {i : Int} (hz : ns[k]? = some z) (h : (z.1 != i) = true) : remN (ns.take (k + 1)) i = remN (ns.take k) i ++ [z] := by
  unfold remN
  rw [List.take_add_one, hz, List.filter_append]
  simp [h]
theorem remN_no {ns : List Q4} {k : Nat} {z : Q4} {i : Int} (hz : ns[k]? = some z) (h : (z.1 != i) = false) : remN (ns.take (k + 1)) i = remN (ns.take k) i := by
  unfold remN
  rw [List.take_add_one, hz, List.filter_append]
  simp [h]
theorem remL_yes {ls : List Q4} {k : Nat} {z : Q4} {i : Int} (hz : ls[k]? = some z) (h : (z.1 != i) = true) (h2 : (z.2.2.1 != i) = true) : remL (ls.take (k + 1)) i = remL (ls.take k) i ++ [z] := by
  unfold remL
  rw [List.take_add_one, hz, List.filter_append]
  congr 1
  show List.filter _ [z] = [z]
  rw [List.filter_cons, h, h2]; rfl
theorem remL_no {ls : List Q4} {k : Nat} {z : Q4} {i : Int} (hz : ls[k]? = some z) (h : (z.1 != i) = false ∨ (z.2.2.1 != i) = false) : remL (ls.take (k + 1)) i = remL (ls.take k) i := by
  unfold remL
  rw [List.take_add_one, hz, List.filter_append]
  show _ ++ List.filter _ [z] = _
  rw [List.filter_cons]
  rcases h with h | h <;> rw [h] <;> simp
theorem disL_yes {ls : List Q4} {k : Nat} {z l : Q4} (hz : ls[k]? = some z) (h : (z != l) = true) : disL (ls.take (k + 1)) l = disL (ls.take k) l ++ [z] := by
  unfold disL
  rw [List.take_add_one, hz, List.filter_append]
  congr 1
  show List.filter _ [z] = [z]
  rw [List.filter_cons, h]; rfl
theorem disL_no {ls : List Q4} {k : Nat} {z l : Q4} (hz : ls[k]? = some z) (h : (z != l) = false) : disL (ls.take (k + 1)) l = disL (ls.take k) l := by
  unfold disL
  rw [List.take_add_one, hz, List.filter_append]
  show _ ++ List.filter _ [z] = _
  rw [List.filter_cons, h]; simp
theorem remN_len (ns : List Q4) (i : Int) (k : Nat) : (remN (ns.take k) i).length ≤ ns.length := Nat.le_trans (List.length_filter_le ..) (by rw [List.length_take]; omega)
theorem remL_len (ls : List Q4) (i : Int) (k : Nat) : (remL (ls.take k) i).length ≤ ls.length := Nat.le_trans (List.length_filter_le ..) (by rw [List.length_take]; omega)
theorem disL_len (ls : List Q4) (l : Q4) (k : Nat) : (disL (ls.take k) l).length ≤ ls.length := Nat.le_trans (List.length_filter_le ..) (by rw [List.length_take]; omega)
theorem neq4_of {x y : Q4} {b : Bool} (h : (!eqCells (enc4 x) (enc4 y)) = b) : (x != y) = b := by rw [eqCells4] at h; exact h

set_option maxRecDepth 10000 in
set_option maxHeartbeats 2000000 in
theorem remove_ref (a b : Option Addr) (ca cb : Nat) (ns ls : List Q4) (i : Int) (w : World) (hn : Sl [] enc4 4 w a ca ns) (hl : Sl [] enc4 4 w b cb ls) (hv : validS ns ls = true) (hh : hasN ns i = true) : Calls Try.prog 31 [.agg #[.slice a ns.length ca, .slice b ls.length cb], .int .i64 i].toArray w (Gives (fun z : (Option Addr × Nat) × (Option Addr × Nat) => .tuple #[.agg #[.slice z.1.1 (remN ns i).length z.1.2, .slice z.2.1 (remL ls i).length z.2.2], .int .i64 0]) (fun z => [RowP enc4 4 70 z.1.1 z.1.2 (remN ns i), RowP enc4 4 61 z.2.1 z.2.2 (remL ls i)]) w) := by
  have hvf := valid_facts hv
  refine calls_body (n := 69) Try.func31 rfl rfl rfl (St.init _ []) ?_
  refine cd_seq ?_
  refine cd_region ?_
  refine at_does (does_box rfl .agg (fun _ => .nil)) rfl (fun g1 => ?_)
  refine at_does (does_alloc ze_28 .agg (fun _ => (.cons .nil))) rfl (fun g2 => ?_)
  refine at_pure (pv_assign rfl) rfl ?_
  refine at_nil ?_
  refine ex_go ?_
  refine cd_seq ?_
  refine cd_seq ?_
  refine cd_region ?_
  refine at_pure (by exact pv_loads_box ag_28 rfl .z (.take (.take .done))) rfl ?_
  refine at_does (does_val cal58 rfl rfl rfl (fun w hs => valid_ref _ _ _ _ _ _ w (hn.at' hs) (hl.at' hs))) rfl (fun _ => ?_)
  refine at_pure (pv_not rfl) rfl ?_
  refine at_nil ?_
  refine ex_go ?_
  refine cd_else rfl (by rw [hv]; rfl) ?_
  refine cd_skip ?_
  refine ex_go ?_
  refine cd_seq ?_
  refine cd_seq ?_
  refine cd_region ?_
  refine at_pure (by exact pv_loads_box ag_28 rfl .z (.take (.take .done))) rfl ?_
  refine at_pure (pv_move rfl) rfl ?_
  refine at_does (does_val cal62 rfl rfl rfl (fun w hs => node_ref _ _ _ _ _ _ _ w (hn.at' hs) (hl.at' hs))) rfl (fun _ => ?_)
  refine at_pure (pv_move rfl) rfl ?_
  refine at_pure (pv_extract rfl rfl) rfl ?_
  refine at_pure (pv_extract rfl rfl) rfl ?_
  refine at_does (does_alloc ze_70 .agg (fun _ => (.cons (.cons .nil)))) rfl (fun g3 => ?_)
  refine at_turns (by exact turns_store sz_70 rfl rfl .agg rfl rfl (.s (.s .z)) (.rep (.rep (.rep (.rep .done)))) (.s (.s .z))) ?_
  refine at_pure (pv_assign rfl) rfl ?_
  refine at_nil ?_
  refine ex_go ?_
  refine cd_seq ?_
  refine cd_region ?_
  refine at_pure (pv_move rfl) rfl ?_
  refine at_pure (pv_not rfl) rfl ?_
  refine at_nil ?_
  refine ex_go ?_
  refine cd_else rfl (by rw [hh]; rfl) ?_
  refine cd_skip ?_
  refine ex_go ?_
  refine cd_seq ?_
  refine cd_region ?_
  refine at_does (does_alloc ze_28 .agg (fun _ => (.cons (.cons (.cons .nil))))) rfl (fun g4 => ?_)
  refine at_nil ?_
  refine ex_go ?_
  refine cd_seq ?_
  refine cd_seq ?_
  refine Cd.addNil 70 enc4 4 (.cons (.cons (.cons (.cons .nil)))) ?_
  refine Cd.addNil 61 enc4 4 (.cons (.cons (.cons (.cons (.cons .nil))))) ?_
  refine cd_region ?_
  refine at_pure (pv_field0 fa_28_0 rfl (r := 0) rfl) rfl ?_
  refine at_pure (by exact pv_load ld_25 rfl (box_cell .z .z)) rfl ?_
  refine at_pure (pv_len Try.underlying25 rfl) rfl ?_
  refine at_pure (pv_move rfl) rfl ?_
  refine at_nil ?_
  refine ex_go ?_
  refine cd_block ?_
  refine cd_loop (σ := Nat × Option Addr × Nat) (fun s => [(1, .int .i64 i), (2, Value.pointer (some ⟨g1, 0, none⟩)), (4, Value.pointer (some ⟨g2, 0, none⟩)), (8, Value.pointer (some ⟨g4, 0, none⟩)), (27, .slice a ns.length ca), (28, .int .i64 ns.length), (29, .int .i64 (s.1 : Int))]) (fun s => [Box g1 [.slice a ns.length ca, .slice b ls.length cb] 28, Box g2 [.slice none 0 0, .slice none 0 0] 28, Box g4 [.slice s.2.1 (remN (ns.take s.1) i).length s.2.2, .slice none 0 0] 28, RowP enc4 4 70 s.2.1 s.2.2 (remN (ns.take s.1) i), RowP enc4 4 61 none 0 []]) (fun s => s.1 ≤ ns.length ∧ True) (fun s => ns.length - s.1) (0, none, 0) ⟨Nat.zero_le _, trivial⟩ ⟨rfl, rfl, rfl, rfl, rfl, rfl, rfl, trivial⟩ (by repeat first | exact sLn _ | apply sLc | apply sLd) ?_
  rintro ⟨k, oa, oc⟩ ⟨hk, -⟩
  dsimp only at hk ⊢
  refine cd_seq ?_
  refine cd_region ?_
  refine at_pure (pv_lss rfl rfl) rfl ?_
  refine at_nil ?_
  refine ex_go ?_
  refine cd_seq ?_
  refine cd_if rfl (fun hlt => ?_) (fun hlt => ?_)
  · skip
    refine cd_skip ?_
    refine ex_go ?_
    refine cd_seq ?_
    refine cd_block ?_
    refine cd_seq ?_
    have hkl : k < ns.length := by simpa using hlt
    obtain ⟨z, hz⟩ := get_of hkl
    have h9l := remN_len ns i k
    refine cd_region ?_
    refine at_pure (pv_ix Try.underlying25 cz_70 rfl rfl (by first | omega | (simp only [decide_eq_true_eq, decide_eq_false_iff_not] at *; omega)) hn.real (k := k) (by omega)) rfl ?_
    refine at_pure (pv_elems ag_70 rfl (hn.gets hz) rfl) rfl ?_
    refine at_does (does_alloc ze_70 .agg (fun _ => (.cons (.cons (.cons (.cons (.cons .nil))))))) rfl (fun g5 => ?_)
    refine at_turns (by exact turns_store sz_70 rfl rfl .agg rfl rfl (.s (.s (.s (.s (.s .z))))) (.rep (.rep (.rep (.rep .done)))) (.s (.s (.s (.s (.s .z)))))) ?_
    refine at_nil ?_
    refine ex_go ?_
    refine cd_seq ?_
    refine cd_region ?_
    refine at_pure (pv_field0 fa_70_0 rfl (r := 0) rfl) rfl ?_
    refine at_pure (by exact pv_load ld_3 rfl (box_cell (.s (.s (.s (.s (.s .z))))) .z)) rfl ?_
    refine at_pure (pv_move rfl) rfl ?_
    refine at_pure (pv_neq rfl rfl) rfl ?_
    refine at_nil ?_
    refine ex_go ?_
    refine cd_if rfl (fun hne => ?_) (fun hne => ?_)
    · skip
      refine cd_region ?_
      refine at_pure (pv_field0 fa_28_0 rfl (r := 0) rfl) rfl ?_
      refine at_pure (by exact pv_load ld_25 rfl (box_cell (.s (.s .z)) .z)) rfl ?_
      refine at_pure (by exact pv_loads_box ag_70 rfl (.s (.s (.s (.s (.s .z))))) (.take (.take (.take (.take .done))))) rfl ?_
      refine at_does (does_list (by rfl) (by exact (bs_25_1_0 _ _ _ _)) (by exact (fun _ => (.cons (.cons (.cons (.cons (.cons (.cons .nil))))))))) rfl (fun g6 => ?_)
      refine at_hands (does_app (ys := [z]) ⟨len4, by decide, one4⟩ Try.underlying25 ap_70 rfl rfl rfl (.s (.s (.s .z))) (fun w hs => hs.box1 (enc := enc4) (z := z) (.s (.s (.s (.s (.s (.s .z))))))) (by simp only [List.length_singleton]; omega) (by simp) (fun _ _ => (.s (.s (.s .z))))) rfl (fun a9 c9 hr7 hc7 => ?_)
      refine at_pure (pv_field0 fa_28_0 rfl (r := 0) rfl) rfl ?_
      refine at_turns (by exact turns_store sz_25 rfl rfl (.one rfl) rfl rfl (.s (.s .z)) (.rep .done) (.s (.s .z))) ?_
      refine at_nil ?_
      refine ex_in_normal (ex_go ?_)
      refine cd_region ?_
      refine at_pure (by first | exact pv_add_n rfl rfl (by unfold In64; omega) | exact pv_add rfl rfl) rfl ?_
      refine at_pure (pv_move rfl) rfl ?_
      refine at_nil ?_
      first | (have hr := remN_yes hz (by assumption); refine ex_meet (k + 1, a9, c9) ⟨⟨by dsimp only; omega, trivial⟩, by dsimp only; omega⟩ ⟨rfl, rfl, rfl, rfl, rfl, rfl, rfl, trivial⟩ ?_; dsimp only; rw [hr]; (repeat first | exact sLn _ | apply sLc | apply sLd); done) | (have hr := remN_no hz (by assumption); refine ex_meet (k + 1, oa, oc) ⟨⟨by dsimp only; omega, trivial⟩, by dsimp only; omega⟩ ⟨rfl, rfl, rfl, rfl, rfl, rfl, rfl, trivial⟩ ?_; dsimp only; rw [hr]; (repeat first | exact sLn _ | apply sLc | apply sLd); done)
    · skip
      refine cd_skip ?_
      refine ex_in_normal (ex_go ?_)
      refine cd_region ?_
      refine at_pure (by first | exact pv_add_n rfl rfl (by unfold In64; omega) | exact pv_add rfl rfl) rfl ?_
      refine at_pure (pv_move rfl) rfl ?_
      refine at_nil ?_
      first | (have hr := remN_yes hz (by assumption); refine ex_meet (k + 1, a9, c9) ⟨⟨by dsimp only; omega, trivial⟩, by dsimp only; omega⟩ ⟨rfl, rfl, rfl, rfl, rfl, rfl, rfl, trivial⟩ ?_; dsimp only; rw [hr]; (repeat first | exact sLn _ | apply sLc | apply sLd); done) | (have hr := remN_no hz (by assumption); refine ex_meet (k + 1, oa, oc) ⟨⟨by dsimp only; omega, trivial⟩, by dsimp only; omega⟩ ⟨rfl, rfl, rfl, rfl, rfl, rfl, rfl, trivial⟩ ?_; dsimp only; rw [hr]; (repeat first | exact sLn _ | apply sLc | apply sLd); done)
  · have hkk : k = ns.length := by simp only [decide_eq_false_iff_not] at hlt; omega
    subst hkk
    rw [List.take_length]
    refine cd_exit ?_
    refine ex_then_exit (ex_then_exit (ex_in (ex_go ?_)))
    refine cd_seq ?_
    refine cd_seq ?_
    refine cd_region ?_
    refine at_pure (pv_field0 fa_28_1 rfl (r := 1) rfl) rfl ?_
    refine at_pure (by exact pv_load ld_26 rfl (box_cell .z (.s .z))) rfl ?_
    refine at_pure (pv_len Try.underlying26 rfl) rfl ?_
    refine at_pure (pv_move rfl) rfl ?_
    refine at_nil ?_
    refine ex_go ?_
    refine cd_block ?_
    refine cd_loop (σ := Nat × Option Addr × Nat) (fun s => [(1, .int .i64 i), (2, Value.pointer (some ⟨g1, 0, none⟩)), (4, Value.pointer (some ⟨g2, 0, none⟩)), (8, Value.pointer (some ⟨g4, 0, none⟩)), (45, .slice b ls.length cb), (46, .int .i64 ls.length), (47, .int .i64 (s.1 : Int))]) (fun s => [Box g1 [.slice a ns.length ca, .slice b ls.length cb] 28, Box g2 [.slice none 0 0, .slice none 0 0] 28, Box g4 [.slice oa (remN ns i).length oc, .slice s.2.1 (remL (ls.take s.1) i).length s.2.2] 28, RowP enc4 4 70 oa oc (remN ns i), RowP enc4 4 61 s.2.1 s.2.2 (remL (ls.take s.1) i)]) (fun s => s.1 ≤ ls.length ∧ True) (fun s => ls.length - s.1) (0, none, 0) ⟨Nat.zero_le _, trivial⟩ ⟨rfl, rfl, rfl, rfl, rfl, rfl, rfl, trivial⟩ (by repeat first | exact sLn _ | apply sLc | apply sLd) ?_
    rintro ⟨k, ob, od⟩ ⟨hk, -⟩
    dsimp only at hk ⊢
    refine cd_seq ?_
    refine cd_region ?_
    refine at_pure (pv_lss rfl rfl) rfl ?_
    refine at_nil ?_
    refine ex_go ?_
    refine cd_seq ?_
    refine cd_if rfl (fun hlt2 => ?_) (fun hlt2 => ?_)
    · skip
      refine cd_skip ?_
      refine ex_go ?_
      refine cd_seq ?_
      refine cd_block ?_
      refine cd_seq ?_
      have hkl : k < ls.length := by simpa using hlt2
      obtain ⟨z, hz⟩ := get_of hkl
      have h9l := remL_len ls i k
      refine cd_region ?_
      refine at_pure (pv_ix Try.underlying26 cz_61 rfl rfl (by first | omega | (simp only [decide_eq_true_eq, decide_eq_false_iff_not] at *; omega)) hl.real (k := k) (by omega)) rfl ?_
      refine at_pure (pv_elems ag_61 rfl (hl.gets hz) rfl) rfl ?_
      refine at_does (does_alloc ze_61 .agg (fun _ => (.cons (.cons (.cons (.cons (.cons .nil))))))) rfl (fun g8 => ?_)
      refine at_turns (by exact turns_store sz_61 rfl rfl .agg rfl rfl (.s (.s (.s (.s (.s .z))))) (.rep (.rep (.rep (.rep .done)))) (.s (.s (.s (.s (.s .z)))))) ?_
      refine at_nil ?_
      refine ex_go ?_
      refine cd_seq ?_
      refine cd_region ?_
      refine at_pure (pv_field0 fa_61_0 rfl (r := 0) rfl) rfl ?_
      refine at_pure (by exact pv_load ld_3 rfl (box_cell (.s (.s (.s (.s (.s .z))))) .z)) rfl ?_
      refine at_pure (pv_move rfl) rfl ?_
      refine at_pure (pv_neq rfl rfl) rfl ?_
      refine at_pure (pv_move rfl) rfl ?_
      refine at_split 55 rfl (fun hb4 => ?_) (fun hb4 => ?_)
      · skip
        refine at_pure_g rfl rfl hb4 (pv_field0 fa_61_2 rfl (r := 2) rfl) rfl ?_
        refine at_pure_g rfl rfl hb4 (by exact pv_load ld_3 rfl (box_cell (.s (.s (.s (.s (.s .z))))) (.s (.s .z)))) rfl ?_
        refine at_pure_g rfl rfl hb4 (pv_move rfl) rfl ?_
        refine at_pure_g rfl rfl hb4 (pv_neq rfl rfl) rfl ?_
        refine at_pure (pv_pick_t rfl hb4 rfl) rfl ?_
        refine at_nil ?_
        refine ex_go ?_
        refine cd_if rfl (fun hne2 => ?_) (fun hne2 => ?_)
        · skip
          refine cd_region ?_
          refine at_pure (pv_field0 fa_28_1 rfl (r := 1) rfl) rfl ?_
          refine at_pure (by exact pv_load ld_26 rfl (box_cell (.s (.s .z)) (.s .z))) rfl ?_
          refine at_pure (by exact pv_loads_box ag_61 rfl (.s (.s (.s (.s (.s .z))))) (.take (.take (.take (.take .done))))) rfl ?_
          refine at_does (does_list (by rfl) (by exact (bs_26_1_0 _ _ _ _)) (by exact (fun _ => (.cons (.cons (.cons (.cons (.cons (.cons .nil))))))))) rfl (fun g9 => ?_)
          refine at_hands (does_app (ys := [z]) ⟨len4, by decide, one4⟩ Try.underlying26 ap_61 rfl rfl rfl (.s (.s (.s (.s .z)))) (fun w hs => hs.box1 (enc := enc4) (z := z) (.s (.s (.s (.s (.s (.s .z))))))) (by simp only [List.length_singleton]; omega) (by simp) (fun _ _ => (.s (.s (.s (.s .z)))))) rfl (fun a9 c9 hr10 hc10 => ?_)
          refine at_pure (pv_field0 fa_28_1 rfl (r := 1) rfl) rfl ?_
          refine at_turns (by exact turns_store sz_26 rfl rfl (.one rfl) rfl rfl (.s (.s .z)) (.skip (.rep .done)) (.s (.s .z))) ?_
          refine at_nil ?_
          refine ex_in_normal (ex_go ?_)
          refine cd_region ?_
          refine at_pure (by first | exact pv_add_n rfl rfl (by unfold In64; omega) | exact pv_add rfl rfl) rfl ?_
          refine at_pure (pv_move rfl) rfl ?_
          refine at_nil ?_
          first | (have hr := remL_yes hz (by assumption) (by assumption); refine ex_meet (k + 1, a9, c9) ⟨⟨by dsimp only; omega, trivial⟩, by dsimp only; omega⟩ ⟨rfl, rfl, rfl, rfl, rfl, rfl, rfl, trivial⟩ ?_; dsimp only; rw [hr]; (repeat first | exact sLn _ | apply sLc | apply sLd); done) | (have hr := remL_no hz (.inl (by assumption)); refine ex_meet (k + 1, ob, od) ⟨⟨by dsimp only; omega, trivial⟩, by dsimp only; omega⟩ ⟨rfl, rfl, rfl, rfl, rfl, rfl, rfl, trivial⟩ ?_; dsimp only; rw [hr]; (repeat first | exact sLn _ | apply sLc | apply sLd); done) | (have hr := remL_no hz (.inr (by assumption)); refine ex_meet (k + 1, ob, od) ⟨⟨by dsimp only; omega, trivial⟩, by dsimp only; omega⟩ ⟨rfl, rfl, rfl, rfl, rfl, rfl, rfl, trivial⟩ ?_; dsimp only; rw [hr]; (repeat first | exact sLn _ | apply sLc | apply sLd); done)
        · skip
          refine cd_skip ?_
          refine ex_in_normal (ex_go ?_)
          refine cd_region ?_
          refine at_pure (by first | exact pv_add_n rfl rfl (by unfold In64; omega) | exact pv_add rfl rfl) rfl ?_
          refine at_pure (pv_move rfl) rfl ?_
          refine at_nil ?_
          first | (have hr := remL_yes hz (by assumption) (by assumption); refine ex_meet (k + 1, a9, c9) ⟨⟨by dsimp only; omega, trivial⟩, by dsimp only; omega⟩ ⟨rfl, rfl, rfl, rfl, rfl, rfl, rfl, trivial⟩ ?_; dsimp only; rw [hr]; (repeat first | exact sLn _ | apply sLc | apply sLd); done) | (have hr := remL_no hz (.inl (by assumption)); refine ex_meet (k + 1, ob, od) ⟨⟨by dsimp only; omega, trivial⟩, by dsimp only; omega⟩ ⟨rfl, rfl, rfl, rfl, rfl, rfl, rfl, trivial⟩ ?_; dsimp only; rw [hr]; (repeat first | exact sLn _ | apply sLc | apply sLd); done) | (have hr := remL_no hz (.inr (by assumption)); refine ex_meet (k + 1, ob, od) ⟨⟨by dsimp only; omega, trivial⟩, by dsimp only; omega⟩ ⟨rfl, rfl, rfl, rfl, rfl, rfl, rfl, trivial⟩ ?_; dsimp only; rw [hr]; (repeat first | exact sLn _ | apply sLc | apply sLd); done)
      · skip
        refine at_skip rfl rfl hb4 rfl ?_
        refine at_skip rfl rfl hb4 rfl ?_
        refine at_skip rfl rfl hb4 rfl ?_
        refine at_skip rfl rfl hb4 rfl ?_
        refine at_pure (pv_pick_f rfl hb4 rfl) rfl ?_
        refine at_nil ?_
        refine ex_go ?_
        refine cd_else rfl rfl ?_
        refine cd_skip ?_
        refine ex_in_normal (ex_go ?_)
        refine cd_region ?_
        refine at_pure (by first | exact pv_add_n rfl rfl (by unfold In64; omega) | exact pv_add rfl rfl) rfl ?_
        refine at_pure (pv_move rfl) rfl ?_
        refine at_nil ?_
        first | (have hr := remL_yes hz (by assumption) (by assumption); refine ex_meet (k + 1, a9, c9) ⟨⟨by dsimp only; omega, trivial⟩, by dsimp only; omega⟩ ⟨rfl, rfl, rfl, rfl, rfl, rfl, rfl, trivial⟩ ?_; dsimp only; rw [hr]; (repeat first | exact sLn _ | apply sLc | apply sLd); done) | (have hr := remL_no hz (.inl (by assumption)); refine ex_meet (k + 1, ob, od) ⟨⟨by dsimp only; omega, trivial⟩, by dsimp only; omega⟩ ⟨rfl, rfl, rfl, rfl, rfl, rfl, rfl, trivial⟩ ?_; dsimp only; rw [hr]; (repeat first | exact sLn _ | apply sLc | apply sLd); done) | (have hr := remL_no hz (.inr (by assumption)); refine ex_meet (k + 1, ob, od) ⟨⟨by dsimp only; omega, trivial⟩, by dsimp only; omega⟩ ⟨rfl, rfl, rfl, rfl, rfl, rfl, rfl, trivial⟩ ?_; dsimp only; rw [hr]; (repeat first | exact sLn _ | apply sLc | apply sLd); done)
    · have hkk : k = ls.length := by simp only [decide_eq_false_iff_not] at hlt2; omega
      subst hkk
      rw [List.take_length]
      refine cd_exit ?_
      refine ex_then_exit (ex_then_exit (ex_in (ex_go ?_)))
      refine cd_seq ?_
      refine cd_region ?_
      refine at_pure (by exact pv_loads_box ag_28 rfl (.s (.s .z)) (.take (.take .done))) rfl ?_
      refine at_turns (by exact turns_store sz_28 rfl rfl .agg rfl rfl (.s .z) (.rep (.rep .done)) (.s .z)) ?_
      refine at_pure (pv_assign rfl) rfl ?_
      refine at_nil ?_
      refine ex_go ?_
      refine cd_ret ?_
      exact end_ct rfl (by exact Lies.box ag_28 rfl (.s .z) rfl) rfl (fun w hs => Gives.mk' ((oa, oc), (ob, od)) rfl (by repeat first | exact sLn _ | apply sLc | apply sLd) hs)

set_option maxRecDepth 10000 in
set_option maxHeartbeats 2000000 in
theorem disconnect_ref (a b : Option Addr) (ca cb : Nat) (ns ls : List Q4) (l : Q4) (w : World) (hn : Sl [] enc4 4 w a ca ns) (hl : Sl [] enc4 4 w b cb ls) (hv : validS ns ls = true) (hpt : ports ns l = true) (hm : ls.contains l = true) : Calls Try.prog 32 [.agg #[.slice a ns.length ca, .slice b ls.length cb], .agg #[.int .i64 l.1, .int .i64 l.2.1, .int .i64 l.2.2.1, .int .i64 l.2.2.2]].toArray w (Gives (fun z : (Option Addr × Nat) × (Option Addr × Nat) => .tuple #[.agg #[.slice z.1.1 ns.length z.1.2, .slice z.2.1 (disL ls l).length z.2.2], .int .i64 0]) (fun z => [RowP enc4 4 70 z.1.1 z.1.2 ns, RowP enc4 4 61 z.2.1 z.2.2 (disL ls l)]) w) := by
  have hvf := valid_facts hv
  refine calls_body (n := 48) Try.func32 rfl rfl rfl (St.init _ []) ?_
  refine cd_seq ?_
  refine cd_region ?_
  refine at_does (does_box rfl .agg (fun _ => .nil)) rfl (fun g1 => ?_)
  refine at_does (does_box rfl .agg (fun _ => (.cons .nil))) rfl (fun g2 => ?_)
  refine at_does (does_alloc ze_28 .agg (fun _ => (.cons (.cons .nil)))) rfl (fun g3 => ?_)
  refine at_pure (pv_assign rfl) rfl ?_
  refine at_nil ?_
  refine ex_go ?_
  refine cd_seq ?_
  refine cd_block ?_
  refine cd_seq ?_
  refine cd_region ?_
  refine at_pure (by exact pv_loads_box ag_28 rfl .z (.take (.take .done))) rfl ?_
  refine at_does (does_val cal58 rfl rfl rfl (fun w hs => valid_ref _ _ _ _ _ _ w (hn.at' hs) (hl.at' hs))) rfl (fun _ => ?_)
  refine at_pure (pv_not rfl) rfl ?_
  refine at_pure (pv_assign rfl) rfl ?_
  refine at_nil ?_
  refine ex_go ?_
  refine cd_else rfl (by rw [hv]; rfl) ?_
  refine cd_seq ?_
  refine cd_region ?_
  refine at_pure (by exact pv_loads_box ag_28 rfl .z (.take (.take .done))) rfl ?_
  refine at_pure (by exact pv_loads_box ag_61 rfl (.s .z) (.take (.take (.take (.take .done))))) rfl ?_
  refine at_does (does_val cal63 rfl rfl rfl (fun w hs => ports_ref _ _ _ _ _ _ _ w (hn.at' hs) (hl.at' hs))) rfl (fun _ => ?_)
  refine at_pure (pv_not rfl) rfl ?_
  refine at_pure (pv_move rfl) rfl ?_
  refine at_pure_g rfl rfl (by rw [hpt]; rfl) (by exact pv_loads_box ag_28 rfl .z (.take (.take .done))) rfl ?_
  refine at_pure_g rfl rfl (by rw [hpt]; rfl) (by exact pv_loads_box ag_61 rfl (.s .z) (.take (.take (.take (.take .done))))) rfl ?_
  refine at_does_g rfl rfl (by rw [hpt]; rfl) (does_val cal64 rfl rfl rfl (fun w hs => has_ref _ _ _ _ _ _ _ w (hn.at' hs) (hl.at' hs))) rfl (fun _ => ?_)
  refine at_pure_g rfl rfl (by rw [hpt]; rfl) (pv_not rfl) rfl ?_
  refine at_pure (pv_pick_f rfl (by rw [hpt]; rfl) rfl) rfl ?_
  refine at_pure (pv_assign rfl) rfl ?_
  refine at_nil ?_
  refine ex_go ?_
  refine cd_else rfl (by rw [hm]; rfl) ?_
  refine cd_skip ?_
  refine ex_in_normal (ex_go ?_)
  refine cd_seq ?_
  refine Cd.addNil 70 enc4 4 (.cons (.cons (.cons .nil))) ?_
  refine cd_region ?_
  refine at_pure (pv_field0 fa_28_0 rfl (r := 0) rfl) rfl ?_
  refine at_pure (by exact pv_load ld_25 rfl (box_cell .z .z)) rfl ?_
  refine at_hands (does_app (ys := ns) ⟨len4, by decide, one4⟩ Try.underlying25 ap_70 rfl rfl rfl (.s (.s (.s .z))) (fun w hs => hn.at' hs) (by simp; omega) hn.nil (fun _ _ => (.s (.s (.s .z))))) rfl (fun a5 c5 hr4 hc4 => ?_)
  rw [List.nil_append]
  refine at_pure (pv_build rfl (bu_28_0 _ _ _)) rfl ?_
  refine at_does (does_alloc ze_28 .agg (fun _ => (.cons (.cons (.cons (.cons .nil)))))) rfl (fun g6 => ?_)
  refine at_turns (by exact turns_store sz_28 rfl rfl .agg rfl rfl (.s (.s (.s (.s .z)))) (.rep (.rep .done)) (.s (.s (.s (.s .z))))) ?_
  refine at_nil ?_
  refine ex_go ?_
  refine cd_seq ?_
  refine cd_seq ?_
  refine Cd.addNil 61 enc4 4 (.cons (.cons (.cons (.cons (.cons .nil))))) ?_
  refine cd_region ?_
  refine at_pure (pv_field0 fa_28_1 rfl (r := 1) rfl) rfl ?_
  refine at_pure (by exact pv_load ld_26 rfl (box_cell .z (.s .z))) rfl ?_
  refine at_pure (pv_len Try.underlying26 rfl) rfl ?_
  refine at_pure (pv_move rfl) rfl ?_
  refine at_nil ?_
  refine ex_go ?_
  refine cd_block ?_
  refine cd_loop (σ := Nat × Option Addr × Nat) (fun s => [(2, Value.pointer (some ⟨g1, 0, none⟩)), (3, Value.pointer (some ⟨g2, 0, none⟩)), (4, Value.pointer (some ⟨g3, 0, none⟩)), (6, Value.pointer (some ⟨g6, 0, none⟩)), (31, .slice b ls.length cb), (32, .int .i64 ls.length), (33, .int .i64 (s.1 : Int))]) (fun s => [Box g1 [.slice a ns.length ca, .slice b ls.length cb] 28, Box g2 [.int .i64 l.1, .int .i64 l.2.1, .int .i64 l.2.2.1, .int .i64 l.2.2.2] 61, Box g3 [.slice none 0 0, .slice none 0 0] 28, RowP enc4 4 70 a5 c5 ns, Box g6 [.slice a5 ns.length c5, .slice s.2.1 (disL (ls.take s.1) l).length s.2.2] 28, RowP enc4 4 61 s.2.1 s.2.2 (disL (ls.take s.1) l)]) (fun s => s.1 ≤ ls.length ∧ True) (fun s => ls.length - s.1) (0, none, 0) ⟨Nat.zero_le _, trivial⟩ ⟨rfl, rfl, rfl, rfl, rfl, rfl, rfl, trivial⟩ (by repeat first | exact sLn _ | apply sLc | apply sLd) ?_
  rintro ⟨k, ob, od⟩ ⟨hk, -⟩
  dsimp only at hk ⊢
  refine cd_seq ?_
  refine cd_region ?_
  refine at_pure (pv_lss rfl rfl) rfl ?_
  refine at_nil ?_
  refine ex_go ?_
  refine cd_seq ?_
  refine cd_if rfl (fun hlt => ?_) (fun hlt => ?_)
  · skip
    refine cd_skip ?_
    refine ex_go ?_
    refine cd_seq ?_
    refine cd_block ?_
    refine cd_seq ?_
    have hkl : k < ls.length := by simpa using hlt
    obtain ⟨z, hz⟩ := get_of hkl
    have h9l := disL_len ls l k
    refine cd_region ?_
    refine at_pure (pv_ix Try.underlying26 cz_61 rfl rfl (by first | omega | (simp only [decide_eq_true_eq, decide_eq_false_iff_not] at *; omega)) hl.real (k := k) (by omega)) rfl ?_
    refine at_pure (pv_elems ag_61 rfl (hl.gets hz) rfl) rfl ?_
    refine at_does (does_alloc ze_61 .agg (fun _ => (.cons (.cons (.cons (.cons (.cons (.cons .nil)))))))) rfl (fun g6 => ?_)
    refine at_turns (by exact turns_store sz_61 rfl rfl .agg rfl rfl (.s (.s (.s (.s (.s (.s .z)))))) (.rep (.rep (.rep (.rep .done)))) (.s (.s (.s (.s (.s (.s .z))))))) ?_
    refine at_nil ?_
    refine ex_go ?_
    refine cd_seq ?_
    refine cd_region ?_
    refine at_pure (by exact pv_loads_box ag_61 rfl (.s (.s (.s (.s (.s (.s .z)))))) (.take (.take (.take (.take .done))))) rfl ?_
    refine at_pure (by exact pv_loads_box ag_61 rfl (.s .z) (.take (.take (.take (.take .done))))) rfl ?_
    refine at_pure (pv_neqls sb_61 rfl rfl rfl) rfl ?_
    refine at_nil ?_
    refine ex_go ?_
    refine cd_if rfl (fun hne => ?_) (fun hne => ?_)
    · skip
      refine cd_region ?_
      refine at_pure (pv_field0 fa_28_1 rfl (r := 1) rfl) rfl ?_
      refine at_pure (by exact pv_load ld_26 rfl (box_cell (.s (.s (.s (.s .z)))) (.s .z))) rfl ?_
      refine at_pure (by exact pv_loads_box ag_61 rfl (.s (.s (.s (.s (.s (.s .z)))))) (.take (.take (.take (.take .done))))) rfl ?_
      refine at_does (does_list (by rfl) (by exact (bs_26_1_0 _ _ _ _)) (by exact (fun _ => (.cons (.cons (.cons (.cons (.cons (.cons (.cons .nil)))))))))) rfl (fun g7 => ?_)
      refine at_hands (does_app (ys := [z]) ⟨len4, by decide, one4⟩ Try.underlying26 ap_61 rfl rfl rfl (.s (.s (.s (.s (.s .z))))) (fun w hs => hs.box1 (enc := enc4) (z := z) (.s (.s (.s (.s (.s (.s (.s .z)))))))) (by simp only [List.length_singleton]; omega) (by simp) (fun _ _ => (.s (.s (.s (.s (.s .z))))))) rfl (fun a9 c9 hr8 hc8 => ?_)
      refine at_pure (pv_field0 fa_28_1 rfl (r := 1) rfl) rfl ?_
      refine at_turns (by exact turns_store sz_26 rfl rfl (.one rfl) rfl rfl (.s (.s (.s (.s .z)))) (.skip (.rep .done)) (.s (.s (.s (.s .z))))) ?_
      refine at_nil ?_
      refine ex_in_normal (ex_go ?_)
      refine cd_region ?_
      refine at_pure (by first | exact pv_add_n rfl rfl (by unfold In64; omega) | exact pv_add rfl rfl) rfl ?_
      refine at_pure (pv_move rfl) rfl ?_
      refine at_nil ?_
      first | (have hr := disL_yes hz (neq4_of hne); refine ex_meet (k + 1, a9, c9) ⟨⟨by dsimp only; omega, trivial⟩, by dsimp only; omega⟩ ⟨rfl, rfl, rfl, rfl, rfl, rfl, rfl, trivial⟩ ?_; dsimp only; rw [hr]; (repeat first | exact sLn _ | apply sLc | apply sLd); done) | (have hr := disL_no hz (neq4_of hne); refine ex_meet (k + 1, ob, od) ⟨⟨by dsimp only; omega, trivial⟩, by dsimp only; omega⟩ ⟨rfl, rfl, rfl, rfl, rfl, rfl, rfl, trivial⟩ ?_; dsimp only; rw [hr]; (repeat first | exact sLn _ | apply sLc | apply sLd); done)
    · skip
      refine cd_skip ?_
      refine ex_in_normal (ex_go ?_)
      refine cd_region ?_
      refine at_pure (by first | exact pv_add_n rfl rfl (by unfold In64; omega) | exact pv_add rfl rfl) rfl ?_
      refine at_pure (pv_move rfl) rfl ?_
      refine at_nil ?_
      first | (have hr := disL_yes hz (neq4_of hne); refine ex_meet (k + 1, a9, c9) ⟨⟨by dsimp only; omega, trivial⟩, by dsimp only; omega⟩ ⟨rfl, rfl, rfl, rfl, rfl, rfl, rfl, trivial⟩ ?_; dsimp only; rw [hr]; (repeat first | exact sLn _ | apply sLc | apply sLd); done) | (have hr := disL_no hz (neq4_of hne); refine ex_meet (k + 1, ob, od) ⟨⟨by dsimp only; omega, trivial⟩, by dsimp only; omega⟩ ⟨rfl, rfl, rfl, rfl, rfl, rfl, rfl, trivial⟩ ?_; dsimp only; rw [hr]; (repeat first | exact sLn _ | apply sLc | apply sLd); done)
  · have hkk : k = ls.length := by simp only [decide_eq_false_iff_not] at hlt; omega
    subst hkk
    rw [List.take_length]
    refine cd_exit ?_
    refine ex_then_exit (ex_then_exit (ex_in (ex_go ?_)))
    refine cd_seq ?_
    refine cd_region ?_
    refine at_pure (by exact pv_loads_box ag_28 rfl (.s (.s (.s (.s .z)))) (.take (.take .done))) rfl ?_
    refine at_turns (by exact turns_store sz_28 rfl rfl .agg rfl rfl (.s (.s .z)) (.rep (.rep .done)) (.s (.s .z))) ?_
    refine at_pure (pv_assign rfl) rfl ?_
    refine at_nil ?_
    refine ex_go ?_
    refine cd_ret ?_
    exact end_ct rfl (by exact Lies.box ag_28 rfl (.s (.s .z)) rfl) rfl (fun w hs => Gives.mk' ((a5, c5), (ob, od)) rfl (by repeat first | exact sLn _ | apply sLc | apply sLd) hs)

end Go.Proofs.Ytkejdfnpbkdllaa
