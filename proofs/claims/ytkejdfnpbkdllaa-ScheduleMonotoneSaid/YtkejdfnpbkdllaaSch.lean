/- The schedule: repeated elements, the span. -/
import Derived.Test.YtkejdfnpbkdllaaF25
import Derived.Test.YtkejdfnpbkdllaaGP3
set_option linter.unusedVariables false
set_option linter.unusedSimpArgs false
set_option maxRecDepth 20000
namespace Go.Proofs.Ytkejdfnpbkdllaa
open Go Go.RowKit Go.Proofs.YtkejdfnpbkdllaaV
theorem small_u64 {n : Int} (h : 0 ≤ n ∧ n ≤ 64) : IntKind.u64.wrap n = n := by
  have key : ∀ m : Fin 65, IntKind.u64.wrap ((m.val : Nat) : Int) = ((m.val : Nat) : Int) := by decide +kernel
  obtain ⟨m, rfl⟩ := Int.eq_ofNat_of_zero_le h.1
  exact key ⟨m, by omega⟩
theorem small_and {n : Int} (h : 0 ≤ n ∧ n ≤ 64) : IntKind.u64.wrap ((BitVec.ofInt IntKind.u64.bits n &&& BitVec.ofInt IntKind.u64.bits 4294967295).toNat : Nat) = n := by
  have key : ∀ m : Fin 65, IntKind.u64.wrap ((BitVec.ofInt IntKind.u64.bits ((m.val : Nat) : Int) &&& BitVec.ofInt IntKind.u64.bits 4294967295).toNat : Nat) = ((m.val : Nat) : Int) := by decide +kernel
  obtain ⟨m, rfl⟩ := Int.eq_ofNat_of_zero_le h.1
  exact key ⟨m, by omega⟩
theorem small_shr {n : Int} (h : 0 ≤ n ∧ n ≤ 64) : n.fdiv (2 ^ (min (32 : Int).toNat IntKind.u64.bits)) = 0 := by
  have key : ∀ m : Fin 65, ((m.val : Nat) : Int).fdiv (2 ^ (min (32 : Int).toNat IntKind.u64.bits)) = 0 := by decide +kernel
  obtain ⟨m, rfl⟩ := Int.eq_ofNat_of_zero_le h.1
  exact key ⟨m, by omega⟩

theorem mul64_go (n : Int) (w : World) (h : 0 ≤ n ∧ n ≤ 64) : Calls Try.prog 84 [.int .u64 1, .int .u64 n].toArray w (Val (.tuple #[.int .u64 0, .int .u64 n]) w) := by
  refine calls_body (n := 51) Try.func84 rfl rfl rfl (St.init _ []) ?_
  refine cd_seq ?_
  refine cd_region ?_
  refine at_pure (pv_assign rfl) rfl ?_
  refine at_pure (pv_assign rfl) rfl ?_
  refine at_nil ?_
  refine ex_go ?_
  refine cd_seq ?_
  refine cd_region ?_
  refine at_pure (pv_move rfl) rfl ?_
  refine at_pure (pv_andk (r := 1) rfl rfl (by decide)) rfl ?_
  refine at_pure (pv_assign rfl) rfl ?_
  refine at_nil ?_
  refine ex_go ?_
  refine cd_seq ?_
  refine cd_region ?_
  refine at_pure (pv_move rfl) rfl ?_
  refine at_pure (pv_shrk (r := 0) rfl rfl (by decide) (by decide)) rfl ?_
  refine at_pure (pv_assign rfl) rfl ?_
  refine at_nil ?_
  refine ex_go ?_
  refine cd_seq ?_
  refine cd_region ?_
  refine at_pure (pv_move rfl) rfl ?_
  refine at_pure (pv_andk (r := n) rfl rfl (small_and h)) rfl ?_
  refine at_pure (pv_assign rfl) rfl ?_
  refine at_nil ?_
  refine ex_go ?_
  refine cd_seq ?_
  refine cd_region ?_
  refine at_pure (pv_move rfl) rfl ?_
  refine at_pure (pv_shrk (r := 0) rfl rfl (by decide) (small_shr h)) rfl ?_
  refine at_pure (pv_assign rfl) rfl ?_
  refine at_nil ?_
  refine ex_go ?_
  refine cd_seq ?_
  refine cd_region ?_
  refine at_pure (pv_move rfl) rfl ?_
  refine at_pure (pv_move rfl) rfl ?_
  refine at_pure (pv_mulk (r := n) rfl rfl (by rw [Int.one_mul]; exact small_u64 h)) rfl ?_
  refine at_pure (pv_assign rfl) rfl ?_
  refine at_nil ?_
  refine ex_go ?_
  refine cd_seq ?_
  refine cd_region ?_
  refine at_pure (pv_move rfl) rfl ?_
  refine at_pure (pv_move rfl) rfl ?_
  refine at_pure (pv_mulk (r := 0) rfl rfl (by rw [Int.zero_mul]; decide)) rfl ?_
  refine at_pure (pv_move rfl) rfl ?_
  refine at_pure (pv_shrk (r := 0) rfl rfl (by decide) (small_shr h)) rfl ?_
  refine at_pure (pv_addk (r := 0) rfl rfl (by decide)) rfl ?_
  refine at_pure (pv_assign rfl) rfl ?_
  refine at_nil ?_
  refine ex_go ?_
  refine cd_seq ?_
  refine cd_region ?_
  refine at_pure (pv_move rfl) rfl ?_
  refine at_pure (pv_andk (r := 0) rfl rfl (by decide)) rfl ?_
  refine at_pure (pv_assign rfl) rfl ?_
  refine at_nil ?_
  refine ex_go ?_
  refine cd_seq ?_
  refine cd_region ?_
  refine at_pure (pv_move rfl) rfl ?_
  refine at_pure (pv_shrk (r := 0) rfl rfl (by decide) (by decide)) rfl ?_
  refine at_pure (pv_assign rfl) rfl ?_
  refine at_nil ?_
  refine ex_go ?_
  refine cd_seq ?_
  refine cd_region ?_
  refine at_pure (pv_move rfl) rfl ?_
  refine at_pure (pv_move rfl) rfl ?_
  refine at_pure (pv_move rfl) rfl ?_
  refine at_pure (pv_mulk (r := 0) rfl rfl (by decide)) rfl ?_
  refine at_pure (pv_addk (r := 0) rfl rfl (by decide)) rfl ?_
  refine at_pure (pv_assign rfl) rfl ?_
  refine at_nil ?_
  refine ex_go ?_
  refine cd_seq ?_
  refine cd_region ?_
  refine at_pure (pv_move rfl) rfl ?_
  refine at_pure (pv_move rfl) rfl ?_
  refine at_pure (pv_mulk (r := 0) rfl rfl (by decide)) rfl ?_
  refine at_pure (pv_move rfl) rfl ?_
  refine at_pure (pv_addk (r := 0) rfl rfl (by decide)) rfl ?_
  refine at_pure (pv_move rfl) rfl ?_
  refine at_pure (pv_shrk (r := 0) rfl rfl (by decide) (by decide)) rfl ?_
  refine at_pure (pv_addk (r := 0) rfl rfl (by decide)) rfl ?_
  refine at_pure (pv_assign rfl) rfl ?_
  refine at_nil ?_
  refine ex_go ?_
  refine cd_seq ?_
  refine cd_region ?_
  refine at_pure (pv_move rfl) rfl ?_
  refine at_pure (pv_move rfl) rfl ?_
  refine at_pure (pv_mulk (r := n) rfl rfl (by rw [Int.one_mul]; exact small_u64 h)) rfl ?_
  refine at_pure (pv_assign rfl) rfl ?_
  refine at_nil ?_
  refine ex_go ?_
  refine cd_ret ?_
  exact end_ret2 rfl rfl rfl (fun w hs => Val.mk hs)

theorem mul_go (n : Int) (w : World) (h : 0 ≤ n ∧ n ≤ 64) : Calls Try.prog 71 [.int .u64 1, .int .u64 n].toArray w (Val (.tuple #[.int .u64 0, .int .u64 n]) w) := by
  refine calls_body (n := 30) Try.func71 rfl rfl rfl (St.init _ []) ?_
  refine cd_seq ?_
  refine cd_region ?_
  refine at_pure (pv_assign rfl) rfl ?_
  refine at_pure (pv_assign rfl) rfl ?_
  refine at_nil ?_
  refine ex_go ?_
  refine cd_seq ?_
  refine cd_else rfl rfl ?_
  refine cd_skip ?_
  refine ex_go ?_
  refine cd_seq ?_
  refine cd_region ?_
  refine at_pure (pv_move rfl) rfl ?_
  refine at_pure (pv_move rfl) rfl ?_
  refine at_does (does_val cal84 rfl rfl rfl (fun w hs => mul64_go n w h)) rfl (fun _ => ?_)
  refine at_pure (pv_move rfl) rfl ?_
  refine at_pure (pv_extract rfl rfl) rfl ?_
  refine at_pure (pv_extract rfl rfl) rfl ?_
  refine at_pure (pv_assign rfl) rfl ?_
  refine at_pure (pv_assign rfl) rfl ?_
  refine at_nil ?_
  refine ex_go ?_
  refine cd_seq ?_
  refine cd_region ?_
  refine at_pure (pv_move rfl) rfl ?_
  refine at_pure (pv_move rfl) rfl ?_
  refine at_pure (pv_assign rfl) rfl ?_
  refine at_pure (pv_assign rfl) rfl ?_
  refine at_nil ?_
  refine ex_go ?_
  refine cd_ret ?_
  exact end_ret2 rfl rfl rfl (fun w hs => Val.mk hs)

theorem rep_of {xs : List Int} {n : Nat} {v : Int} (hl : xs.length = n) (h : ∀ j, j < n → xs[j]? = some v) : xs = List.replicate n v := by
  apply List.ext_getElem?
  intro j
  by_cases hj : j < n
  · rw [h j hj, List.getElem?_replicate, if_pos hj]
  · rw [List.getElem?_eq_none (by omega), List.getElem?_eq_none (by simp; omega)]
theorem rep_start (n : Nat) : min 1 n ≤ n ∧ ((List.replicate n (0 : Int)).take 0 ++ ([-1] : List Int).take (min 1 n) ++ (List.replicate n (0 : Int)).drop (0 + min 1 n)).length = n ∧ (n = 0 ∨ 1 ≤ min 1 n) ∧ ∀ j, j < min 1 n → ((List.replicate n (0 : Int)).take 0 ++ ([-1] : List Int).take (min 1 n) ++ (List.replicate n (0 : Int)).drop (0 + min 1 n))[j]? = some (-1) := by
  cases n with
  | zero => exact ⟨by omega, rfl, .inl rfl, by intro j hj; omega⟩
  | succ n =>
    have : min 1 (n + 1) = 1 := by omega
    rw [this]
    refine ⟨by omega, by simp, .inr (Nat.le_refl _), fun j hj => ?_⟩
    have : j = 0 := by omega
    subst this
    simp
theorem rep_step {n k : Nat} {xs : List Int} (hk : k ≤ n) (hl : xs.length = n) (h1 : n = 0 ∨ 1 ≤ k) (hkl : k < n) (hq : ∀ j, j < k → xs[j]? = some (-1)) :
    k + min k (n - k) ≤ n ∧ (xs.take k ++ (xs.take k).take (min k (n - k)) ++ xs.drop (k + min k (n - k))).length = n ∧ (n = 0 ∨ 1 ≤ k + min k (n - k)) ∧ ∀ j, j < k + min k (n - k) → (xs.take k ++ (xs.take k).take (min k (n - k)) ++ xs.drop (k + min k (n - k)))[j]? = some (-1) := by
  have l1 : (xs.take k).length = k := by rw [List.length_take]; omega
  have l2 : ((xs.take k).take (min k (n - k))).length = min k (n - k) := by rw [List.length_take, l1]; omega
  refine ⟨by omega, by rw [List.length_append, List.length_append, l1, l2, List.length_drop]; omega, by omega, fun j hj => ?_⟩
  rw [List.append_assoc, List.getElem?_append, l1]
  split
  · rename_i h2
    rw [List.getElem?_take, if_pos h2]
    exact hq j h2
  · rename_i h2
    have h3 : j - k < min k (n - k) := by omega
    rw [List.getElem?_append, l2, if_pos h3, List.getElem?_take, if_pos h3, List.getElem?_take, if_pos (by omega)]
    exact hq _ (by omega)

set_option maxRecDepth 10000 in
set_option maxHeartbeats 1000000 in
theorem repeat_go (c : Option Addr) (cc n : Nat) (w : World) (hx : Sl [] enc1 1 w c cc [-1]) (hn : n ≤ 64) : Calls Try.prog 46 [.slice c ([-1] : List Int).length cc, .int .i64 (n : Int)].toArray w (Gives (fun g : Nat => .slice (some ⟨g, 0, none⟩) n n) (fun g => [RowP enc1 1 3 (some ⟨g, 0, none⟩) n (List.replicate n (-1))]) w) := by
  refine calls_body (n := 48) Try.func46 rfl rfl rfl (St.init _ []) ?_
  refine cd_seq ?_
  refine cd_region ?_
  refine at_pure (pv_assign rfl) rfl ?_
  refine at_nil ?_
  refine ex_go ?_
  refine cd_seq ?_
  refine cd_seq ?_
  refine cd_region ?_
  refine at_pure (pv_move rfl) rfl ?_
  refine at_pure (pv_lss rfl rfl) rfl ?_
  refine at_nil ?_
  refine ex_go ?_
  refine cd_if rfl (fun hb1 => ?_) (fun hb1 => ?_)
  · exact absurd hb1 (by simp)
  · skip
    refine cd_skip ?_
    refine ex_go ?_
    refine cd_seq ?_
    refine cd_region ?_
    refine at_pure (pv_move rfl) rfl ?_
    refine at_pure (pv_len Try.underlying22 rfl) rfl ?_
    refine at_pure (pv_conv (r := 1) us_3 Try.underlying113 rfl (by decide)) rfl ?_
    refine at_pure (pv_move rfl) rfl ?_
    refine at_pure (pv_conv (r := (n : Int)) us_3 Try.underlying113 rfl (small_u64 (by omega))) rfl ?_
    refine at_does (does_val cal71 rfl rfl rfl (fun w hs => mul_go (n : Int) w (by omega))) rfl (fun _ => ?_)
    refine at_pure (pv_move rfl) rfl ?_
    refine at_pure (pv_extract rfl rfl) rfl ?_
    refine at_pure (pv_extract rfl rfl) rfl ?_
    refine at_pure (pv_assign rfl) rfl ?_
    refine at_pure (pv_assign rfl) rfl ?_
    refine at_nil ?_
    refine ex_go ?_
    refine cd_seq ?_
    refine cd_seq ?_
    refine cd_region ?_
    refine at_pure (pv_move rfl) rfl ?_
    refine at_pure (pv_gtr rfl rfl) rfl ?_
    refine at_pure (pv_move rfl) rfl ?_
    refine at_pure_g rfl rfl (by decide) (pv_move rfl) rfl ?_
    refine at_pure_g rfl rfl (by decide) (pv_gtr rfl rfl) rfl ?_
    refine at_pure (pv_pick_f rfl (by decide) rfl) rfl ?_
    refine at_nil ?_
    refine ex_go ?_
    refine cd_else rfl (decide_eq_false (by omega)) ?_
    refine cd_skip ?_
    refine ex_go ?_
    refine cd_seq ?_
    refine cd_region ?_
    refine at_pure (pv_move rfl) rfl ?_
    refine at_pure (pv_conv (r := (n : Int)) us_113 Try.underlying3 rfl (by rw [wrap_i64, wrap64_in (by unfold In64; omega)])) rfl ?_
    refine at_does (does_make (enc := enc1) (z0 := (0 : Int)) (v0 := .int .i64 0) rfl Try.underlying22 mk_3 (by decide) rfl rfl (by omega) (fun _ => .nil)) rfl (fun gs => ?_)
    refine at_pure (pv_assign rfl) rfl ?_
    refine at_nil ?_
    refine ex_go ?_
    refine cd_seq ?_
    refine cd_region ?_
    refine at_pure (pv_move rfl) rfl ?_
    refine at_pure (pv_move rfl) rfl ?_
    refine at_does (does_copy (q := 0) (N := min 1 n) (ys := [-1]) len1 one1 Try.underlying22 is_3 rfl rfl .z (fun _ => rfl) (by simp; omega) (fun w hs => hx.at' hs) (by simp) .z) rfl (fun _ => ?_)
    refine at_pure (pv_assign rfl) rfl ?_
    refine at_nil ?_
    refine ex_go ?_
    refine cd_seq ?_
    refine cd_block ?_
    refine cd_loop (σ := Nat × List Int) (fun s => [(7, .slice (some ⟨gs, 0, none⟩) n n), (8, .int .i64 (s.1 : Int))]) (fun s => [RowP enc1 1 3 (some ⟨gs, 0, none⟩) n s.2]) (fun s => s.1 ≤ n ∧ s.2.length = n ∧ (n = 0 ∨ 1 ≤ s.1) ∧ ∀ j, j < s.1 → s.2[j]? = some (-1)) (fun s => n - s.1) (min 1 n, (List.replicate n (0 : Int)).take 0 ++ ([-1] : List Int).take (min 1 n) ++ (List.replicate n (0 : Int)).drop (0 + min 1 n)) (rep_start n) ⟨rfl, rfl, trivial⟩ (by repeat first | exact sLn _ | apply sLc | apply sLd) ?_
    rintro ⟨k, xs⟩ ⟨hk, hxl, hk1, hq⟩
    dsimp only at hk hxl hk1 hq ⊢
    refine cd_seq ?_
    refine cd_seq ?_
    refine cd_region ?_
    refine at_pure (pv_move rfl) rfl ?_
    refine at_pure (pv_move rfl) rfl ?_
    refine at_pure (pv_len Try.underlying22 rfl) rfl ?_
    refine at_pure (pv_lss rfl rfl) rfl ?_
    refine at_nil ?_
    refine ex_go ?_
    refine cd_if rfl (fun hlt => ?_) (fun hlt => ?_)
    · have hkl : k < n := by simpa using hlt
      refine cd_skip ?_
      refine ex_go ?_
      refine cd_block ?_
      refine cd_draw 9 [] follows ?_
      refine dr_take 0 rfl (by kernel_rfl) (by repeat first | exact sLn _ | apply sLc | apply sLd) (pv_move rfl) rfl ?_
      refine dr_take 1 rfl (by kernel_rfl) (by repeat first | exact sLn _ | apply sLc | apply sLd) (pv_move rfl) rfl ?_
      refine dr_take 2 rfl (by kernel_rfl) (by repeat first | exact sLn _ | apply sLc | apply sLd) (pv_move rfl) rfl ?_
      refine dr_take 3 rfl (by kernel_rfl) (by repeat first | exact sLn _ | apply sLc | apply sLd) (pv_cut_from Try.underlying22 cz_3 rfl rfl (by omega) (k := k) (by omega)) rfl ?_
      refine dr_take 4 rfl (by kernel_rfl) (by repeat first | exact sLn _ | apply sLc | apply sLd) (pv_move rfl) rfl ?_
      refine dr_take 5 rfl (by kernel_rfl) (by repeat first | exact sLn _ | apply sLc | apply sLd) (pv_move rfl) rfl ?_
      refine dr_take 6 rfl (by kernel_rfl) (by repeat first | exact sLn _ | apply sLc | apply sLd) (pv_cut_to Try.underlying22 cz_3 rfl rfl (by omega) (k := (xs.take k).length) (by rw [List.length_take]; omega)) rfl ?_
      refine dr_one 7 (by kernel_rfl) rfl ?_
      refine at_does (does_copy (q := k) (N := min k (n - k)) (ys := xs.take k) len1 one1 Try.underlying22 is_3 rfl rfl .z (fun _ => by rw [if_neg (by omega)]; simp [adr, Addr.add]) (by rw [List.length_take]; omega) (fun w hs => ((hs.rows len1 (by decide) .z).take k)) (by rw [List.length_take]; omega) .z) rfl (fun _ => ?_)
      refine at_nil (dr_next (fun _ => (by repeat first | exact sLn _ | apply sLc | apply sLd)) ?_)
      refine dr_take 8 rfl (by kernel_rfl) (by repeat first | exact sLn _ | apply sLc | apply sLd) (by first | exact pv_add_n rfl rfl (by unfold In64; omega) | exact pv_add rfl rfl) rfl ?_
      refine dr_one 9 (by kernel_rfl) rfl ?_
      refine at_pure (pv_assign rfl) rfl ?_
      refine at_nil (dr_next (fun h => by cases h) ?_)
      refine dr_done (by kernel_rfl) ?_
      refine ex_in_normal ?_
      exact ex_meet (k + min k (n - k), xs.take k ++ (xs.take k).take (min k (n - k)) ++ xs.drop (k + min k (n - k))) ⟨rep_step hk hxl hk1 hkl hq, by dsimp only; omega⟩ ⟨rfl, rfl, trivial⟩ (by repeat first | exact sLn _ | apply sLc | apply sLd)
    · skip
      refine cd_exit ?_
      refine ex_then_exit (ex_then_exit (ex_in (ex_go ?_)))
      refine cd_seq ?_
      refine cd_region ?_
      refine at_pure (pv_move rfl) rfl ?_
      refine at_pure (pv_assign rfl) rfl ?_
      refine at_nil ?_
      refine ex_go ?_
      refine cd_ret ?_
      exact end_ret1 rfl rfl (fun w hs => by have hk2 : k = n := (by simp at hlt; omega); subst hk2; have he := rep_of hxl hq; subst he; exact Gives.mk' gs rfl (List.Sublist.refl _) hs)

def maxQ : List Q4 → Q4 → Q4
  | [], m => m
  | z :: zs, m => maxQ zs (bif decide (0 < cmpI z.2.2.2 m.2.2.2) then z else m)
def topQ : List Q4 → Q4
  | [] => (0, 0, 0, 0)
  | z :: zs => maxQ zs z
theorem cmpI_pos (x y : Int) : decide (0 < cmpI x y) = decide (y < x) := by
  have := cmpI_range x y
  by_cases h : y < x
  · rw [decide_eq_true h, decide_eq_true (by omega)]
  · rw [decide_eq_false h, decide_eq_false (by omega)]
theorem maxQ_span : ∀ (zs : List Q4) (m : Q4), zs.foldl spanF (if m.2.2.2 > 0 then m.2.2.2 else 0) = if (maxQ zs m).2.2.2 > 0 then (maxQ zs m).2.2.2 else 0
  | [], m => rfl
  | z :: zs, m => by
    rw [List.foldl_cons]
    unfold maxQ
    rw [cmpI_pos]
    by_cases h : m.2.2.2 < z.2.2.2
    · rw [decide_eq_true h, cond_true, ← maxQ_span zs z]
      congr 1
      unfold spanF
      split <;> split <;> (try split) <;> omega
    · rw [decide_eq_false h, cond_false, ← maxQ_span zs m]
      congr 1
      unfold spanF
      split <;> (try split) <;> omega
theorem topQ_span {l : List Q4} (h : l ≠ []) : (if (topQ l).2.2.2 > 0 then (topQ l).2.2.2 else 0) = spanS l := by
  cases l with
  | nil => exact absurd rfl h
  | cons z zs =>
    unfold topQ spanS
    rw [List.foldl_cons, ← maxQ_span]
    congr 1
theorem topQ_step {l : List Q4} {k : Nat} {m z : Q4} (h : topQ l = maxQ (l.drop k) m) (hz : l[k]? = some z) : topQ l = maxQ (l.drop (k + 1)) (bif decide (0 < cmpI z.2.2.2 m.2.2.2) then z else m) := by
  rw [h, drop_of hz]
  rfl

theorem span1_go (x y : Q4) (w : World) : Calls Try.prog 48 [.agg (enc4 x).toArray, .agg (enc4 y).toArray].toArray w (Val (.int .i64 (cmpI x.2.2.2 y.2.2.2)) w) := by
  refine calls_body (n := 10) Try.func48 rfl rfl rfl (St.init _ []) ?_
  refine cd_seq ?_
  refine cd_region ?_
  refine at_does (does_box rfl .agg (fun _ => .nil)) rfl (fun g1 => ?_)
  refine at_does (does_box rfl .agg (fun _ => (.cons .nil))) rfl (fun g2 => ?_)
  refine at_pure (pv_assign rfl) rfl ?_
  refine at_nil ?_
  refine ex_go ?_
  refine cd_seq ?_
  refine cd_region ?_
  refine at_pure (pv_field0 fa_39_3 rfl (r := 3) rfl) rfl ?_
  refine at_pure (by exact pv_load ld_3 rfl (box_cell .z (.s (.s (.s .z))))) rfl ?_
  refine at_pure (pv_field0 fa_39_3 rfl (r := 3) rfl) rfl ?_
  refine at_pure (by exact pv_load ld_3 rfl (box_cell (.s .z) (.s (.s (.s .z))))) rfl ?_
  refine at_does (does_val cal49 rfl rfl rfl (fun w hs => cmp_go _ _ w)) rfl (fun _ => ?_)
  refine at_pure (pv_assign rfl) rfl ?_
  refine at_nil ?_
  refine ex_go ?_
  refine cd_ret ?_
  exact end_ret1 rfl rfl (fun w hs => Val.mk hs)

theorem maxfunc_go (c : Option Addr) (cc : Nat) (l : List Q4) (fid : Nat) (w : World) (hx : Sl [] enc4 4 w c cc l) (hpos : 0 < l.length) (hcal : Callable Try.prog fid) (hcall : ∀ x y w', Keep [] w w' → Calls Try.prog fid ([.agg (enc4 x).toArray, .agg (enc4 y).toArray] : List Value).toArray w' (Val (.int .i64 (cmpI x.2.2.2 y.2.2.2)) w')) : Calls Try.prog 50 [.slice c l.length cc, .func (.func fid) #[] #[]].toArray w (Val (.agg (enc4 (topQ l)).toArray) w) := by
  refine calls_body (n := 33) Try.func50 rfl rfl rfl (St.init _ []) ?_
  refine cd_seq ?_
  refine cd_region ?_
  refine at_does (does_alloc ze_39 .agg (fun _ => .nil)) rfl (fun g1 => ?_)
  refine at_nil ?_
  refine ex_go ?_
  refine cd_seq ?_
  refine cd_seq ?_
  refine cd_region ?_
  refine at_pure (pv_move rfl) rfl ?_
  refine at_pure (pv_len Try.underlying23 rfl) rfl ?_
  refine at_pure (pv_lss rfl rfl) rfl ?_
  refine at_nil ?_
  refine ex_go ?_
  refine cd_if rfl (fun hb1 => ?_) (fun hb1 => ?_)
  · exact absurd hpos (by simp at hb1; omega)
  · skip
    refine cd_skip ?_
    refine ex_go ?_
    refine cd_seq ?_
    obtain ⟨y0, hy0⟩ := get_of hpos
    have hsm := hx.sm
    refine cd_region ?_
    refine at_pure (pv_move rfl) rfl ?_
    refine at_pure (pv_ix Try.underlying23 cz_39 rfl rfl (by first | omega | (simp only [decide_eq_true_eq, decide_eq_false_iff_not] at *; omega)) hx.real (k := 0) (by omega)) rfl ?_
    refine at_pure (pv_elems ag_39 rfl (hx.gets hy0) rfl) rfl ?_
    refine at_does (does_alloc ze_39 .agg (fun _ => (.cons .nil))) rfl (fun g2 => ?_)
    refine at_turns (by exact turns_store sz_39 rfl rfl .agg rfl rfl (.s .z) (.rep (.rep (.rep (.rep .done)))) (.s .z)) ?_
    refine at_nil ?_
    refine ex_go ?_
    refine cd_seq ?_
    refine cd_seq ?_
    refine cd_region ?_
    refine at_pure (pv_assign rfl) rfl ?_
    refine at_nil ?_
    refine ex_go ?_
    refine cd_block ?_
    refine cd_loop (σ := Nat × Q4) (fun s => [(0, .slice c l.length cc), (1, .func (.func fid) #[] #[]), (4, Value.pointer (some ⟨g1, 0, none⟩)), (5, Value.pointer (some ⟨g2, 0, none⟩)), (6, .int .i64 (s.1 : Int))]) (fun s => [Box g1 [.int .i64 0, .int .i64 0, .int .i64 0, .int .i64 0] 39, Box g2 (enc4 s.2) 39]) (fun s => 1 ≤ s.1 ∧ s.1 ≤ l.length ∧ topQ l = maxQ (l.drop s.1) s.2) (fun s => l.length - s.1) (1, y0) ⟨Nat.le_refl _, by omega, (by cases l with | nil => simp at hy0 | cons a l => simp at hy0; subst hy0; rfl)⟩ ⟨rfl, rfl, rfl, rfl, rfl, trivial⟩ (by repeat first | exact sLn _ | apply sLc | apply sLd) ?_
    rintro ⟨k, m⟩ ⟨hk1, hk, hq⟩
    dsimp only at hk1 hk hq ⊢
    refine cd_seq ?_
    refine cd_seq ?_
    refine cd_region ?_
    refine at_pure (pv_move rfl) rfl ?_
    refine at_pure (pv_move rfl) rfl ?_
    refine at_pure (pv_len Try.underlying23 rfl) rfl ?_
    refine at_pure (pv_lss rfl rfl) rfl ?_
    refine at_nil ?_
    refine ex_go ?_
    refine cd_if rfl (fun hlt => ?_) (fun hlt => ?_)
    · have hkl : k < l.length := by simpa using hlt
      obtain ⟨z, hz⟩ := get_of hkl
      have hsm := hx.sm
      refine cd_skip ?_
      refine ex_go ?_
      refine cd_seq ?_
      refine cd_block ?_
      refine cd_seq ?_
      refine cd_draw' 8 follows ?_
      refine dr_take 0 rfl (by kernel_rfl) (.refl _) (pv_move rfl) rfl ?_
      refine dr_take 1 rfl (by kernel_rfl) (.refl _) (pv_move rfl) rfl ?_
      refine dr_take 2 rfl (by kernel_rfl) (.refl _) (pv_move rfl) rfl ?_
      refine dr_take 3 rfl (by kernel_rfl) (.refl _) (pv_ix Try.underlying23 cz_39 rfl rfl (by first | omega | (simp only [decide_eq_true_eq, decide_eq_false_iff_not] at *; omega)) hx.real (k := k) (by omega)) rfl ?_
      refine dr_take 4 rfl (by kernel_rfl) (.refl _) (pv_elems ag_39 rfl (hx.gets hz) rfl) rfl ?_
      refine dr_take 5 rfl (by kernel_rfl) (.refl _) (by exact pv_loads_box ag_39 rfl (.s .z) (.take (.take (.take (.take .done))))) rfl ?_
      refine dr_one 6 (by kernel_rfl) rfl ?_
      refine at_does (does_val (v := .int .i64 (cmpI z.2.2.2 m.2.2.2)) hcal rfl rfl rfl (fun w hs => hcall z m w hs.keep)) rfl (fun _ => ?_)
      refine at_nil (dr_next (fun _ => (.refl _)) ?_)
      refine dr_take 7 rfl (by kernel_rfl) (.refl _) (pv_gtr rfl rfl) rfl ?_
      refine dr_done (by kernel_rfl) ?_
      refine ex_go ?_
      refine cd_if rfl (fun hb3 => ?_) (fun hb3 => ?_)
      · skip
        refine cd_region ?_
        refine at_pure (pv_move rfl) rfl ?_
        refine at_pure (pv_move rfl) rfl ?_
        refine at_pure (pv_ix Try.underlying23 cz_39 rfl rfl (by first | omega | (simp only [decide_eq_true_eq, decide_eq_false_iff_not] at *; omega)) hx.real (k := k) (by omega)) rfl ?_
        refine at_pure (pv_elems ag_39 rfl (hx.gets hz) rfl) rfl ?_
        refine at_turns (by exact turns_store sz_39 rfl rfl .agg rfl rfl (.s .z) (.rep (.rep (.rep (.rep .done)))) (.s .z)) ?_
        refine at_nil ?_
        refine ex_in_normal (ex_go ?_)
        refine cd_region ?_
        refine at_pure (pv_move rfl) rfl ?_
        refine at_pure (by first | exact pv_add_n rfl rfl (by unfold In64; omega) | exact pv_add rfl rfl) rfl ?_
        refine at_pure (pv_assign rfl) rfl ?_
        refine at_nil ?_
        first | exact ex_meet (k + 1, z) ⟨⟨by dsimp only; omega, by dsimp only; omega, by have h9 := topQ_step hq hz; rw [show decide (0 < cmpI z.2.2.2 m.2.2.2) = true by assumption] at h9; exact h9⟩, by dsimp only; omega⟩ ⟨rfl, rfl, rfl, rfl, rfl, trivial⟩ (by repeat first | exact sLn _ | apply sLc | apply sLd) | exact ex_meet (k + 1, m) ⟨⟨by dsimp only; omega, by dsimp only; omega, by have h9 := topQ_step hq hz; rw [show decide (0 < cmpI z.2.2.2 m.2.2.2) = false by assumption] at h9; exact h9⟩, by dsimp only; omega⟩ ⟨rfl, rfl, rfl, rfl, rfl, trivial⟩ (by repeat first | exact sLn _ | apply sLc | apply sLd)
      · skip
        refine cd_skip ?_
        refine ex_in_normal (ex_go ?_)
        refine cd_region ?_
        refine at_pure (pv_move rfl) rfl ?_
        refine at_pure (by first | exact pv_add_n rfl rfl (by unfold In64; omega) | exact pv_add rfl rfl) rfl ?_
        refine at_pure (pv_assign rfl) rfl ?_
        refine at_nil ?_
        first | exact ex_meet (k + 1, z) ⟨⟨by dsimp only; omega, by dsimp only; omega, by have h9 := topQ_step hq hz; rw [show decide (0 < cmpI z.2.2.2 m.2.2.2) = true by assumption] at h9; exact h9⟩, by dsimp only; omega⟩ ⟨rfl, rfl, rfl, rfl, rfl, trivial⟩ (by repeat first | exact sLn _ | apply sLc | apply sLd) | exact ex_meet (k + 1, m) ⟨⟨by dsimp only; omega, by dsimp only; omega, by have h9 := topQ_step hq hz; rw [show decide (0 < cmpI z.2.2.2 m.2.2.2) = false by assumption] at h9; exact h9⟩, by dsimp only; omega⟩ ⟨rfl, rfl, rfl, rfl, rfl, trivial⟩ (by repeat first | exact sLn _ | apply sLc | apply sLd)
    · skip
      refine cd_exit ?_
      refine ex_then_exit (ex_then_exit (ex_in (ex_go ?_)))
      refine cd_seq ?_
      refine cd_region ?_
      refine at_pure (by exact pv_loads_box ag_39 rfl (.s .z) (.take (.take (.take (.take .done))))) rfl ?_
      refine at_turns (by exact turns_store sz_39 rfl rfl .agg rfl rfl .z (.rep (.rep (.rep (.rep .done)))) .z) ?_
      refine at_nil ?_
      refine ex_go ?_
      refine cd_ret ?_
      exact end_c rfl (by exact Lies.box ag_39 rfl .z rfl) (fun w hs => ⟨by clear hs; have h9 : topQ l = m := (by rw [hq, List.drop_eq_nil_of_le (by simp at hlt; omega)]; rfl); rw [h9]; rfl, hs.keep⟩)

theorem span_go (c : Option Addr) (cc : Nat) (l : List Q4) (w : World) (hx : Sl [] enc4 4 w c cc l) : Calls Try.prog 18 [.slice c l.length cc].toArray w (Val (.int .i64 (spanS l)) w) := by
  refine calls_body (n := 12) Try.func18 rfl rfl rfl (St.init _ []) ?_
  refine cd_seq ?_
  refine cd_region ?_
  refine at_pure (pv_assign rfl) rfl ?_
  refine at_nil ?_
  refine ex_go ?_
  refine cd_seq ?_
  refine cd_seq ?_
  refine cd_region ?_
  refine at_pure (pv_move rfl) rfl ?_
  refine at_pure (pv_len Try.underlying23 rfl) rfl ?_
  refine at_pure (pv_eql rfl rfl) rfl ?_
  refine at_nil ?_
  refine ex_go ?_
  refine cd_if rfl (fun h0 => ?_) (fun h0 => ?_)
  · skip
    refine cd_seq ?_
    refine cd_region ?_
    refine at_pure (pv_assign rfl) rfl ?_
    refine at_nil ?_
    refine ex_go ?_
    refine cd_ret ?_
    refine ex_then_ret ?_
    exact end_ret1 rfl rfl (fun w hs => ⟨by clear hs; refine congrArg (fun b => Ending.returned (.int .i64 b)) ?_; first | exact topQ_span hne | (have h9 : l = [] := (by simpa using h0); subst h9; rfl), hs.keep⟩)
  · have hne : l ≠ [] := by intro e; subst e; simp at h0
    have hpos : 0 < l.length := List.length_pos_iff.2 hne
    refine cd_skip ?_
    refine ex_go ?_
    refine cd_seq ?_
    refine cd_region ?_
    refine at_pure (pv_assign rfl) rfl ?_
    refine at_nil ?_
    refine ex_go ?_
    refine cd_seq ?_
    refine cd_region ?_
    refine at_pure (pv_move rfl) rfl ?_
    refine at_pure (pv_move rfl) rfl ?_
    refine at_does (does_val cal50 rfl rfl rfl (fun w hs => maxfunc_go c cc l 48 w (hx.at' hs) hpos cal48 (fun x y w' k => span1_go x y w'))) rfl (fun _ => ?_)
    refine at_pure (pv_field f1_39_3 rfl (.s (.s (.s .z)))) rfl ?_
    refine at_pure (pv_max rfl rfl) rfl ?_
    refine at_pure (pv_assign rfl) rfl ?_
    refine at_nil ?_
    refine ex_go ?_
    refine cd_ret ?_
    exact end_ret1 rfl rfl (fun w hs => ⟨by clear hs; refine congrArg (fun b => Ending.returned (.int .i64 b)) ?_; first | exact topQ_span hne | (have h9 : l = [] := (by simpa using h0); subst h9; rfl), hs.keep⟩)

end Go.Proofs.Ytkejdfnpbkdllaa
