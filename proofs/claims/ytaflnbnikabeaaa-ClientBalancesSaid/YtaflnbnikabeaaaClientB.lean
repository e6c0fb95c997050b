/- The walk of the law of the client's balances. -/
import Derived.Test.YtaflnbnikabeaaaClientL
set_option linter.unusedVariables false
set_option linter.unusedSimpArgs false
namespace Go.Proofs.Ytaflnbnikabeaaa.Client
open Go Go.RowKit Go.Proofs.YtaflnbnikabeaaaV Go.Proofs.Ytaflnbnikabeaaa
theorem st_law (m G run s : Int) (hr : 0 ≤ run) (hG : 0 ≤ G) (hst : s = if m = 0 then 1 else if G < run + 1 then 3 else 2) :
    (m = 0 → ((s == 1) != ((0 : Int) == 0)) = false ∧ ((s == 3) != decide (G < 0)) = false) ∧ (m ≠ 0 → ((s == 1) != (run + 1 == 0)) = false ∧ ((s == 3) != decide (G < run + 1)) = false) := by
  refine ⟨fun h => ?_, fun h => ?_⟩
  · rw [if_pos h] at hst
    subst hst
    refine ⟨by simp, ?_⟩
    rw [decide_eq_false (show ¬ G < 0 by omega)]; rfl
  · rw [if_neg h] at hst
    have e1 : (run + 1 == 0) = false := beq_eq_false_iff_ne.2 (by omega)
    by_cases c : G < run + 1
    · rw [if_pos c] at hst
      subst hst
      exact ⟨by rw [e1]; rfl, by rw [decide_eq_true c]; rfl⟩
    · rw [if_neg c] at hst
      subst hst
      exact ⟨by rw [e1]; rfl, by rw [decide_eq_false c]; rfl⟩
theorem state_ok (a b c d m run : Int) (hv : validC a b c d = true) (hr : 0 ≤ run) (hd : d = if m = 0 then 0 else run + 1) : stateI a b c d false = if m = 0 then 1 else if a < run + 1 then 3 else 2 := by
  have hv' := (validC_iff a b c d).1 hv
  unfold stateI
  rw [hv]
  show sel (decide (a < d)) 3 (sel (decide (0 < d)) 2 1) = _
  by_cases c : m = 0
  · rw [if_pos c] at hd ⊢
    subst hd
    rw [decide_eq_false (show ¬ a < 0 by omega)]; rfl
  · rw [if_neg c] at hd ⊢
    subst hd
    by_cases c2 : a < run + 1
    · rw [if_pos c2, decide_eq_true c2]; rfl
    · rw [if_neg c2, decide_eq_false c2, decide_eq_true (show 0 < run + 1 by omega)]; rfl
theorem wrote_ok (a b c d n : Int) (w : World) (h1 : validC a b c d = true) (h2 : 0 ≤ n) (h3 : n ≤ 1099511627776 - b) : Calls Try.prog 36 [.agg #[.int .i64 a, .int .i64 b, .int .i64 c, .int .i64 d, .bool false], .int .i64 n].toArray w (Val (.tuple #[.agg #[.int .i64 a, .int .i64 (b + n), .int .i64 c, .int .i64 d, .bool false], .int .i64 0]) w) := by
  have := wrote_any a b c d false n w
  rwa [wroteV_ok a b c d n h1 h2 h3] at this
theorem tick_ok (a b c d n k m d2 : Int) (w : World) (h1 : validC a b c d = true) (h2 : 0 ≤ n) (h3 : n ≤ 9223372036854775807) (hk : k = took b c n) (hm : m = n - k) (hd : d2 = late b c d n) :
    Calls Try.prog 38 [.agg #[.int .i64 a, .int .i64 b, .int .i64 c, .int .i64 d, .bool false], .int .i64 n].toArray w (Val (.tuple #[.agg #[.int .i64 a, .int .i64 b, .int .i64 (c + k), .int .i64 d2, .bool false], .int .i64 m, .int .i64 0]) w) := by
  have := tick_any a b c d false n w h3
  rw [tickV_ok a b c d false n h1 h2] at this
  rw [hd, hm, hk]; exact this
theorem new_ok (g : Int) (w : World) (h : 0 ≤ g ∧ g ≤ 4096) : Calls Try.prog 40 [.int .i64 g].toArray w (Val (.tuple #[.agg #[.int .i64 g, .int .i64 0, .int .i64 0, .int .i64 0, .bool false], .int .i64 0]) w) := by
  have := new_c g w
  rwa [newV_ok g h] at this
theorem state_dead (a b c d : Int) (w : World) (h1 : validC a b c d = true) : Calls Try.prog 32 [.agg #[.int .i64 a, .int .i64 b, .int .i64 c, .int .i64 d, .bool true]].toArray w (Val (.int .i64 4) w) := by
  have := state_any a b c d true w
  unfold stateI at this
  rwa [h1] at this

set_option maxRecDepth 10000 in
set_option maxHeartbeats 1000000 in
theorem clientBalances_any (a : Option Addr) (len cap : Nat) (t : Int) (w : World) (hI : Ints [] w a len) (hl : len ≤ 17592186044416) : Calls Try.prog 9 [.slice a len cap, .int .i64 t].toArray w (Val (.bool true) w) := by
  refine calls_body (n := 124) Try.func9 rfl rfl rfl (St.init _ []) ?_
  refine cd_seq ?_
  refine cd_region ?_
  refine at_pure (pv_assign rfl) rfl ?_
  refine at_nil ?_
  refine ex_go ?_
  refine cd_seq ?_
  refine cd_seq ?_
  refine cd_region ?_
  refine at_does (does_val cal28 rfl rfl rfl (fun w hs => sane_client w)) rfl (fun _ => ?_)
  refine at_pure (pv_not rfl) rfl ?_
  refine at_nil ?_
  refine ex_go ?_
  refine cd_else rfl rfl ?_
  refine cd_skip ?_
  refine ex_go ?_
  refine cd_seq ?_
  refine cd_seq ?_
  refine cd_region ?_
  refine at_pure (pv_move rfl) rfl ?_
  refine at_does (does_val cal42 rfl rfl rfl (fun w hs => few_any a len cap w)) rfl (fun _ => ?_)
  refine at_pure (pv_not rfl) rfl ?_
  refine at_nil ?_
  refine ex_go ?_
  refine cd_if rfl (fun hfew => ?_) (fun hfew => ?_)
  · skip
    refine cd_seq ?_
    refine cd_region ?_
    refine at_pure (pv_assign rfl) rfl ?_
    refine at_nil ?_
    refine ex_go ?_
    refine cd_ret ?_
    refine ex_then_ret ?_
    exact end_ret1 rfl rfl (fun w hs => Val.mk hs)
  · skip
    refine cd_skip ?_
    refine ex_go ?_
    refine cd_seq ?_
    have hlen : (len : Int) ≤ 200 := by simpa using hfew
    refine cd_region ?_
    refine at_pure (pv_move rfl) rfl ?_
    refine at_does (does_gives (X := Nat) (val := fun g => Value.pointer (some ⟨g, 0, none⟩)) (Δ := fun g => [Box g [.slice a len cap, .int .i64 0] 75]) cal43 rfl rfl (args := [.slice a len cap]) rfl (fun w hs => new_any a len cap w) (fun _ => .nil)) rfl (fun gd => ?_)
    refine at_pure (pv_assign rfl) rfl ?_
    refine at_nil ?_
    refine ex_go ?_
    refine cd_seq ?_
    refine cd_region ?_
    refine at_pure (pv_move rfl) rfl ?_
    refine at_does (does_val cal12 rfl rfl rfl (fun w hs => mod_any _ _ w (by decide))) rfl (fun _ => ?_)
    refine at_does (does_val cal40 rfl rfl rfl (fun w hs => new_ok _ w (by omega))) rfl (fun _ => ?_)
    refine at_pure (pv_move rfl) rfl ?_
    refine at_pure (pv_extract rfl rfl) rfl ?_
    refine at_pure (pv_extract rfl rfl) rfl ?_
    refine at_does (does_alloc ze_54 .agg (fun _ => (.cons .nil))) rfl (fun g1 => ?_)
    refine at_turns (by exact turns_store sz_54 rfl rfl .agg rfl rfl (.s .z) (.rep (.rep (.rep (.rep (.rep .done))))) (.s .z)) ?_
    refine at_pure (pv_assign rfl) rfl ?_
    refine at_nil ?_
    refine ex_go ?_
    refine cd_seq ?_
    refine cd_seq ?_
    refine cd_region ?_
    refine at_pure (pv_move rfl) rfl ?_
    refine at_pure (pv_neq_same rfl rfl) rfl ?_
    refine at_nil ?_
    refine ex_go ?_
    refine cd_else rfl rfl ?_
    refine cd_skip ?_
    refine ex_go ?_
    refine cd_seq ?_
    refine cd_region ?_
    refine at_pure (pv_assign rfl) rfl ?_
    refine at_pure (pv_assign rfl) rfl ?_
    refine at_pure (pv_assign rfl) rfl ?_
    refine at_nil ?_
    refine ex_go ?_
    refine cd_seq ?_
    refine cd_block ?_
    refine cd_loop (σ := Int × Int × Int × Int × Int × Int) (fun s => [(1, .int .i64 t), (5, Value.pointer (some ⟨gd, 0, none⟩)), (6, Value.pointer (some ⟨g1, 0, none⟩)), (8, .int .i64 s.2.2.2.2.1), (9, .int .i64 s.2.2.2.2.2), (10, .int .i64 s.2.2.2.1)]) (fun s => [Box gd [.slice a len cap, .int .i64 s.1] 75, Box g1 [.int .i64 (t % 5), .int .i64 s.2.1, .int .i64 s.2.2.1, .int .i64 s.2.2.2.1, .bool false] 54]) (fun s => 0 ≤ s.1 ∧ s.1 ≤ len ∧ 0 ≤ s.2.2.1 ∧ s.2.2.1 ≤ s.2.1 ∧ s.2.1 ≤ 60 * s.1 ∧ 0 ≤ s.2.2.2.1 ∧ s.2.2.2.1 ≤ s.1 ∧ s.2.2.2.2.1 - s.2.2.2.2.2 = s.2.2.1 ∧ 0 ≤ s.2.2.2.2.1 ∧ s.2.2.2.2.1 ≤ 60 * s.1 ∧ 0 ≤ s.2.2.2.2.2 ∧ s.2.2.2.2.2 ≤ 60 * s.1) (fun s => (len - s.1).toNat) (0, 0, 0, 0, 0, 0) (by dsimp only; omega) ⟨rfl, rfl, rfl, rfl, rfl, rfl, trivial⟩ (List.Sublist.refl _) ?_
    rintro ⟨p, b, c, run, sn, sm⟩ hgood
    dsimp only at hgood ⊢
    have hG : 0 ≤ t % 5 ∧ t % 5 ≤ 4 := by omega
    have hv1 : validC (t % 5) b c run = true := by rw [validC_iff]; omega
    refine cd_seq ?_
    refine cd_seq ?_
    refine cd_region ?_
    refine at_pure (pv_move rfl) rfl ?_
    refine at_does (does_val cal44 rfl rfl rfl (fun w hs => left_any gd a len cap p w (hs.box (i := 0) rfl))) rfl (fun _ => ?_)
    refine at_nil ?_
    refine ex_go ?_
    refine cd_if rfl (fun hl0 => ?_) (fun hl0 => ?_)
    · have hp : p < (len : Int) := by simpa using hl0
      refine cd_skip ?_
      refine ex_go ?_
      refine cd_block ?_
      refine cd_seq ?_
      refine cd_region ?_
      refine at_pure (pv_move rfl) rfl ?_
      refine at_hand (does_hand cal45 rfl rfl rfl .z (fun w hs => next_any gd a len cap p 60 w (hs.box (i := 0) rfl) (hI.beside hs .z) (by omega) hl (by omega)) (fun _ => .z)) rfl (fun x1 p1 hx1 => ?_)
      obtain ⟨h1a, h1b, h1c⟩ := hx1
      rw [if_pos hp] at h1c
      refine at_pure (pv_move rfl) rfl ?_
      refine at_hand (does_hand cal45 rfl rfl rfl .z (fun w hs => next_any gd a len cap p1 60 w (hs.box (i := 0) rfl) (hI.beside hs .z) (by omega) hl (by omega)) (fun _ => .z)) rfl (fun x2 p2 hx2 => ?_)
      obtain ⟨h2a, h2b, h2c⟩ := hx2
      have h2d : p + 1 ≤ p2 ∧ p2 ≤ len := by rw [h2c]; split <;> omega
      clear h2c
      refine at_pure (pv_assign rfl) rfl ?_
      refine at_pure (pv_assign rfl) rfl ?_
      refine at_nil ?_
      refine ex_go ?_
      refine cd_seq ?_
      refine cd_region ?_
      refine at_pure (pv_field0 fa_54_1 rfl (r := 1) rfl) rfl ?_
      refine at_pure (by exact pv_load ld_2 rfl (box_cell (.s .z) (.s .z))) rfl ?_
      refine at_pure (pv_field0 fa_54_2 rfl (r := 2) rfl) rfl ?_
      refine at_pure (by exact pv_load ld_2 rfl (box_cell (.s .z) (.s (.s .z)))) rfl ?_
      refine at_pure (by first | exact pv_sub_n rfl rfl (by unfold In64; omega) | exact pv_sub rfl rfl) rfl ?_
      refine at_pure (pv_move rfl) rfl ?_
      refine at_pure (by first | exact pv_add_n rfl rfl (by unfold In64; omega) | exact pv_add rfl rfl) rfl ?_
      refine at_pure (pv_move rfl) rfl ?_
      refine at_pure (pv_geq rfl rfl) rfl ?_
      refine at_pure (pv_assign rfl) rfl ?_
      refine at_nil ?_
      refine ex_go ?_
      refine cd_seq ?_
      refine cd_region ?_
      refine at_pure (by exact pv_loads_box ag_54 rfl (.s .z) (.take (.take (.take (.take (.take .done)))))) rfl ?_
      refine at_pure (pv_move rfl) rfl ?_
      refine at_does (does_val cal36 rfl rfl rfl (fun w hs => wrote_ok _ _ _ _ _ w hv1 h1a (by omega))) rfl (fun _ => ?_)
      refine at_pure (pv_move rfl) rfl ?_
      refine at_pure (pv_extract rfl rfl) rfl ?_
      refine at_pure (pv_extract rfl rfl) rfl ?_
      refine at_does (does_alloc ze_54 .agg (fun _ => (.cons (.cons .nil)))) rfl (fun g2 => ?_)
      refine at_turns (by exact turns_store sz_54 rfl rfl .agg rfl rfl (.s (.s .z)) (.rep (.rep (.rep (.rep (.rep .done))))) (.s (.s .z))) ?_
      refine at_pure (pv_assign rfl) rfl ?_
      refine at_nil ?_
      refine ex_go ?_
      refine cd_seq ?_
      obtain ⟨k, hk⟩ : ∃ k, k = took (b + x1) c x2 := ⟨_, rfl⟩
      obtain ⟨m, hm⟩ : ∃ m, m = x2 - k := ⟨_, rfl⟩
      obtain ⟨d2, hd2⟩ : ∃ d, d = late (b + x1) c run x2 := ⟨_, rfl⟩
      have hv2 : validC (t % 5) (b + x1) c run = true := by rw [validC_iff]; omega
      have hk' : 0 ≤ k ∧ k ≤ x2 ∧ k ≤ b + x1 - c ∧ (k = x2 ∨ k = b + x1 - c) := by rw [hk]; unfold took; omega
      have hd3 : d2 = if m = 0 then 0 else run + 1 := by rw [hd2]; unfold late; rw [← hk, ← hm, if_neg (show ¬ 1099511627776 < run + 1 by omega)]
      have hmt : (m == 0) = decide (x2 ≤ b - c + x1) := by
        by_cases z : x2 ≤ b - c + x1
        · rw [decide_eq_true z]; exact beq_iff_eq.2 (by omega)
        · rw [decide_eq_false z]; exact beq_eq_false_iff_ne.2 (by omega)
      have hd4 : 0 ≤ d2 ∧ d2 ≤ run + 1 := by rw [hd3]; split <;> omega
      have hv3 : validC (t % 5) (b + x1) (c + k) d2 = true := by rw [validC_iff]; omega
      have hst := state_ok (t % 5) (b + x1) (c + k) d2 m run hv3 (by omega) hd3
      have hlaw := st_law m (t % 5) run _ (by omega) hG.1 hst
      refine cd_region ?_
      refine at_pure (by exact pv_loads_box ag_54 rfl (.s (.s .z)) (.take (.take (.take (.take (.take .done)))))) rfl ?_
      refine at_pure (pv_move rfl) rfl ?_
      refine at_does (does_val cal38 rfl rfl rfl (fun w hs => tick_ok _ _ _ _ _ k m d2 w hv2 h2a (by omega) hk hm hd2)) rfl (fun _ => ?_)
      refine at_pure (pv_move rfl) rfl ?_
      refine at_pure (pv_extract rfl rfl) rfl ?_
      refine at_pure (pv_extract rfl rfl) rfl ?_
      refine at_pure (pv_extract rfl rfl) rfl ?_
      refine at_does (does_alloc ze_54 .agg (fun _ => (.cons (.cons (.cons .nil))))) rfl (fun g3 => ?_)
      refine at_turns (by exact turns_store sz_54 rfl rfl .agg rfl rfl (.s (.s (.s .z))) (.rep (.rep (.rep (.rep (.rep .done))))) (.s (.s (.s .z)))) ?_
      refine at_pure (pv_assign rfl) rfl ?_
      refine at_pure (pv_assign rfl) rfl ?_
      refine at_nil ?_
      refine ex_go ?_
      refine cd_seq ?_
      refine cd_seq ?_
      refine cd_region ?_
      refine at_pure (pv_move rfl) rfl ?_
      refine at_pure (pv_neq_same rfl rfl) rfl ?_
      refine at_pure (pv_move rfl) rfl ?_
      refine at_pure_g rfl rfl rfl (pv_move rfl) rfl ?_
      refine at_pure_g rfl rfl rfl (pv_neq_same rfl rfl) rfl ?_
      refine at_pure (pv_pick_f rfl rfl rfl) rfl ?_
      refine at_pure (pv_move rfl) rfl ?_
      refine at_pure_g rfl rfl rfl (pv_move rfl) rfl ?_
      refine at_pure_g rfl rfl rfl (pv_lss rfl rfl) rfl ?_
      refine at_pure (pv_pick_f rfl rfl rfl) rfl ?_
      refine at_pure (pv_move rfl) rfl ?_
      refine at_pure_g rfl rfl (decide_eq_false (by omega)) (pv_move rfl) rfl ?_
      refine at_pure_g rfl rfl (decide_eq_false (by omega)) (pv_eql rfl rfl) rfl ?_
      refine at_pure_g rfl rfl (decide_eq_false (by omega)) (pv_move rfl) rfl ?_
      refine at_pure_g rfl rfl (decide_eq_false (by omega)) (pv_neq_b Try.underlying4 rfl rfl) rfl ?_
      refine at_pure (pv_pick_f rfl (decide_eq_false (by omega)) rfl) rfl ?_
      refine at_pure (pv_move rfl) rfl ?_
      refine at_pure_g rfl rfl (by rw [hmt]; exact bne_self_eq_false _) (pv_field0 fa_54_2 rfl (r := 2) rfl) rfl ?_
      refine at_pure_g rfl rfl (by rw [hmt]; exact bne_self_eq_false _) (by exact pv_load ld_2 rfl (box_cell (.s (.s (.s .z))) (.s (.s .z)))) rfl ?_
      refine at_pure_g rfl rfl (by rw [hmt]; exact bne_self_eq_false _) (pv_field0 fa_54_1 rfl (r := 1) rfl) rfl ?_
      refine at_pure_g rfl rfl (by rw [hmt]; exact bne_self_eq_false _) (by exact pv_load ld_2 rfl (box_cell (.s (.s (.s .z))) (.s .z))) rfl ?_
      refine at_pure_g rfl rfl (by rw [hmt]; exact bne_self_eq_false _) (pv_gtr rfl rfl) rfl ?_
      refine at_pure (pv_pick_f rfl (by rw [hmt]; exact bne_self_eq_false _) rfl) rfl ?_
      refine at_nil ?_
      refine ex_go ?_
      refine cd_else rfl (decide_eq_false (by omega)) ?_
      refine cd_skip ?_
      refine ex_go ?_
      refine cd_seq ?_
      refine cd_region ?_
      refine at_pure (pv_move rfl) rfl ?_
      refine at_pure (pv_move rfl) rfl ?_
      refine at_pure (by first | exact pv_add_n rfl rfl (by unfold In64; omega) | exact pv_add rfl rfl) rfl ?_
      refine at_pure (pv_move rfl) rfl ?_
      refine at_pure (pv_move rfl) rfl ?_
      refine at_pure (by first | exact pv_add_n rfl rfl (by unfold In64; omega) | exact pv_add rfl rfl) rfl ?_
      refine at_pure (pv_assign rfl) rfl ?_
      refine at_pure (pv_assign rfl) rfl ?_
      refine at_nil ?_
      refine ex_go ?_
      refine cd_seq ?_
      refine cd_region ?_
      refine at_pure (pv_move rfl) rfl ?_
      refine at_pure (by first | exact pv_add_n rfl rfl (by unfold In64; omega) | exact pv_add rfl rfl) rfl ?_
      refine at_pure (pv_assign rfl) rfl ?_
      refine at_nil ?_
      refine ex_go ?_
      refine cd_seq ?_
      refine cd_seq ?_
      refine cd_region ?_
      refine at_pure (pv_move rfl) rfl ?_
      refine at_nil ?_
      refine ex_go ?_
      refine cd_if rfl (fun hc => ?_) (fun hc => ?_)
      · have hm1 : m = 0 := by simp at hc; omega
        obtain rfl : d2 = 0 := by rw [hd3, if_pos hm1]
        refine cd_region ?_
        refine at_pure (pv_assign rfl) rfl ?_
        refine at_nil ?_
        refine ex_go ?_
        refine cd_seq ?_
        refine cd_region ?_
        refine at_pure (by exact pv_loads_box ag_54 rfl (.s (.s (.s .z))) (.take (.take (.take (.take (.take .done)))))) rfl ?_
        refine at_does (does_val cal32 rfl rfl rfl (fun w hs => state_any _ _ _ _ _ w)) rfl (fun _ => ?_)
        refine at_pure (pv_assign rfl) rfl ?_
        refine at_nil ?_
        refine ex_go ?_
        refine cd_seq ?_
        refine cd_seq ?_
        refine cd_region ?_
        refine at_pure (pv_move rfl) rfl ?_
        refine at_pure (pv_eql rfl rfl) rfl ?_
        refine at_pure (pv_move rfl) rfl ?_
        refine at_pure (pv_eql rfl rfl) rfl ?_
        refine at_pure (pv_neq_b Try.underlying4 rfl rfl) rfl ?_
        refine at_pure (pv_move rfl) rfl ?_
        refine at_pure_g rfl rfl (by first | exact (hlaw.1 hm1).1 | exact (hlaw.2 hm1).1) (pv_move rfl) rfl ?_
        refine at_pure_g rfl rfl (by first | exact (hlaw.1 hm1).1 | exact (hlaw.2 hm1).1) (pv_eql rfl rfl) rfl ?_
        refine at_pure_g rfl rfl (by first | exact (hlaw.1 hm1).1 | exact (hlaw.2 hm1).1) (pv_move rfl) rfl ?_
        refine at_pure_g rfl rfl (by first | exact (hlaw.1 hm1).1 | exact (hlaw.2 hm1).1) (pv_move rfl) rfl ?_
        refine at_does_g rfl rfl (by first | exact (hlaw.1 hm1).1 | exact (hlaw.2 hm1).1) (does_val cal12 rfl rfl rfl (fun w hs => mod_any _ _ w (by decide))) rfl (fun _ => ?_)
        refine at_pure_g rfl rfl (by first | exact (hlaw.1 hm1).1 | exact (hlaw.2 hm1).1) (pv_gtr rfl rfl) rfl ?_
        refine at_pure_g rfl rfl (by first | exact (hlaw.1 hm1).1 | exact (hlaw.2 hm1).1) (pv_neq_b Try.underlying4 rfl rfl) rfl ?_
        refine at_pure (pv_pick_f rfl (by first | exact (hlaw.1 hm1).1 | exact (hlaw.2 hm1).1) rfl) rfl ?_
        refine at_nil ?_
        refine ex_go ?_
        refine cd_else rfl (by first | exact (hlaw.1 hm1).2 | exact (hlaw.2 hm1).2) ?_
        refine cd_skip ?_
        refine ex_go ?_
        refine cd_region ?_
        refine at_pure (by exact pv_loads_box ag_54 rfl (.s (.s (.s .z))) (.take (.take (.take (.take (.take .done)))))) rfl ?_
        refine at_turns (by exact turns_store sz_54 rfl rfl .agg rfl rfl (.s .z) (.rep (.rep (.rep (.rep (.rep .done))))) (.s .z)) ?_
        refine at_nil ?_
        refine ex_in_normal ?_
        first | exact ex_meet (p2, b + x1, c + k, 0, sn + x2, sm + m) (by dsimp only; omega) ⟨rfl, rfl, rfl, rfl, rfl, rfl, trivial⟩ (by repeat first | exact List.nil_sublist _ | apply List.Sublist.cons_cons | apply List.Sublist.cons) | exact ex_meet (p2, b + x1, c + k, run + 1, sn + x2, sm + m) (by dsimp only; omega) ⟨rfl, rfl, rfl, rfl, rfl, rfl, trivial⟩ (by repeat first | exact List.nil_sublist _ | apply List.Sublist.cons_cons | apply List.Sublist.cons)
      · have hm1 : m ≠ 0 := by simp at hc; omega
        obtain rfl : d2 = run + 1 := by rw [hd3, if_neg hm1]
        refine cd_skip ?_
        refine ex_go ?_
        refine cd_seq ?_
        refine cd_region ?_
        refine at_pure (by exact pv_loads_box ag_54 rfl (.s (.s (.s .z))) (.take (.take (.take (.take (.take .done)))))) rfl ?_
        refine at_does (does_val cal32 rfl rfl rfl (fun w hs => state_any _ _ _ _ _ w)) rfl (fun _ => ?_)
        refine at_pure (pv_assign rfl) rfl ?_
        refine at_nil ?_
        refine ex_go ?_
        refine cd_seq ?_
        refine cd_seq ?_
        refine cd_region ?_
        refine at_pure (pv_move rfl) rfl ?_
        refine at_pure (pv_eql rfl rfl) rfl ?_
        refine at_pure (pv_move rfl) rfl ?_
        refine at_pure (pv_eql rfl rfl) rfl ?_
        refine at_pure (pv_neq_b Try.underlying4 rfl rfl) rfl ?_
        refine at_pure (pv_move rfl) rfl ?_
        refine at_pure_g rfl rfl (by first | exact (hlaw.1 hm1).1 | exact (hlaw.2 hm1).1) (pv_move rfl) rfl ?_
        refine at_pure_g rfl rfl (by first | exact (hlaw.1 hm1).1 | exact (hlaw.2 hm1).1) (pv_eql rfl rfl) rfl ?_
        refine at_pure_g rfl rfl (by first | exact (hlaw.1 hm1).1 | exact (hlaw.2 hm1).1) (pv_move rfl) rfl ?_
        refine at_pure_g rfl rfl (by first | exact (hlaw.1 hm1).1 | exact (hlaw.2 hm1).1) (pv_move rfl) rfl ?_
        refine at_does_g rfl rfl (by first | exact (hlaw.1 hm1).1 | exact (hlaw.2 hm1).1) (does_val cal12 rfl rfl rfl (fun w hs => mod_any _ _ w (by decide))) rfl (fun _ => ?_)
        refine at_pure_g rfl rfl (by first | exact (hlaw.1 hm1).1 | exact (hlaw.2 hm1).1) (pv_gtr rfl rfl) rfl ?_
        refine at_pure_g rfl rfl (by first | exact (hlaw.1 hm1).1 | exact (hlaw.2 hm1).1) (pv_neq_b Try.underlying4 rfl rfl) rfl ?_
        refine at_pure (pv_pick_f rfl (by first | exact (hlaw.1 hm1).1 | exact (hlaw.2 hm1).1) rfl) rfl ?_
        refine at_nil ?_
        refine ex_go ?_
        refine cd_else rfl (by first | exact (hlaw.1 hm1).2 | exact (hlaw.2 hm1).2) ?_
        refine cd_skip ?_
        refine ex_go ?_
        refine cd_region ?_
        refine at_pure (by exact pv_loads_box ag_54 rfl (.s (.s (.s .z))) (.take (.take (.take (.take (.take .done)))))) rfl ?_
        refine at_turns (by exact turns_store sz_54 rfl rfl .agg rfl rfl (.s .z) (.rep (.rep (.rep (.rep (.rep .done))))) (.s .z)) ?_
        refine at_nil ?_
        refine ex_in_normal ?_
        first | exact ex_meet (p2, b + x1, c + k, 0, sn + x2, sm + m) (by dsimp only; omega) ⟨rfl, rfl, rfl, rfl, rfl, rfl, trivial⟩ (by repeat first | exact List.nil_sublist _ | apply List.Sublist.cons_cons | apply List.Sublist.cons) | exact ex_meet (p2, b + x1, c + k, run + 1, sn + x2, sm + m) (by dsimp only; omega) ⟨rfl, rfl, rfl, rfl, rfl, rfl, trivial⟩ (by repeat first | exact List.nil_sublist _ | apply List.Sublist.cons_cons | apply List.Sublist.cons)
    · skip
      refine cd_exit ?_
      refine ex_then_exit (ex_then_exit (ex_in (ex_go ?_)))
      refine cd_seq ?_
      refine cd_region ?_
      refine at_pure (pv_move rfl) rfl ?_
      refine at_pure (pv_move rfl) rfl ?_
      refine at_pure (by first | exact pv_sub_n rfl rfl (by unfold In64; omega) | exact pv_sub rfl rfl) rfl ?_
      refine at_pure (pv_field0 fa_54_2 rfl (r := 2) rfl) rfl ?_
      refine at_pure (by exact pv_load ld_2 rfl (box_cell (.s .z) (.s (.s .z)))) rfl ?_
      refine at_pure (pv_eql rfl rfl) rfl ?_
      refine at_pure (pv_move rfl) rfl ?_
      refine at_pure_g rfl rfl (beq_iff_eq.2 (by omega)) (by exact pv_loads_box ag_54 rfl (.s .z) (.take (.take (.take (.take (.take .done)))))) rfl ?_
      refine at_does_g rfl rfl (beq_iff_eq.2 (by omega)) (does_val cal34 rfl rfl rfl (fun w hs => die_any _ _ _ _ _ w)) rfl (fun _ => ?_)
      refine at_does_g rfl rfl (beq_iff_eq.2 (by omega)) (does_val cal32 rfl rfl rfl (fun w hs => state_dead _ _ _ _ w hv1)) rfl (fun _ => ?_)
      refine at_pure_g rfl rfl (beq_iff_eq.2 (by omega)) (pv_eql rfl rfl) rfl ?_
      refine at_pure (pv_pick_t rfl (beq_iff_eq.2 (by omega)) rfl) rfl ?_
      refine at_pure (pv_assign rfl) rfl ?_
      refine at_nil ?_
      refine ex_go ?_
      refine cd_ret ?_
      exact end_ret1 rfl rfl (fun w hs => Val.mk hs)

end Go.Proofs.Ytaflnbnikabeaaa.Client
