/- The mill: a deck, and a made graph. -/
import Derived.Test.YtkejdfnpbkdllaaF25
import Derived.Test.YtkejdfnpbkdllaaG22r
import Derived.Test.YtkejdfnpbkdllaaVI
set_option linter.unusedVariables false
set_option linter.unusedSimpArgs false
set_option maxRecDepth 20000
namespace Go.Proofs.Ytkejdfnpbkdllaa
open Go Go.RowKit Go.Proofs.YtkejdfnpbkdllaaV
theorem emod_of (x y : Int) (hy : 0 < y) : x % y = if x.tmod y < 0 then x.tmod y + y else x.tmod y := by
  have h := Int.tmod_eq_emod (a := x) (b := y)
  have h1 := Int.emod_nonneg x (show y ≠ 0 by omega)
  have h2 := Int.emod_lt_of_pos x hy
  by_cases c : 0 ≤ x ∨ y ∣ x
  · rw [if_pos c] at h; rw [if_neg (by omega)]; omega
  · rw [if_neg c] at h; rw [if_pos (by omega)]; omega

theorem mod_any (x y : Int) (w : World) (hy : 0 < y ∧ y ≤ 4611686018427387904) : Calls Try.prog 13 [.int .i64 x, .int .i64 y].toArray w (Val (.int .i64 (x % y)) w) := by
  refine calls_body (n := 15) Try.func13 rfl rfl rfl (St.init _ []) ?_
  refine cd_seq ?_
  refine cd_region ?_
  refine at_pure (pv_assign rfl) rfl ?_
  refine at_nil ?_
  refine ex_go ?_
  refine cd_seq ?_
  have q := emod_of x y hy.1
  have q1 := Int.emod_nonneg x (show y ≠ 0 by omega)
  have q2 := Int.emod_lt_of_pos x hy.1
  refine cd_region ?_
  refine at_pure (pv_move rfl) rfl ?_
  refine at_pure (pv_move rfl) rfl ?_
  refine at_pure (pv_rem rfl rfl (by first | decide | omega)) rfl ?_
  refine at_pure (pv_assign rfl) rfl ?_
  refine at_nil ?_
  refine ex_go ?_
  refine cd_seq ?_
  refine cd_seq ?_
  refine cd_region ?_
  refine at_pure (pv_move rfl) rfl ?_
  refine at_pure (pv_lss rfl rfl) rfl ?_
  refine at_nil ?_
  refine ex_go ?_
  refine cd_if rfl (fun hb1 => ?_) (fun hb1 => ?_)
  · have q3 : x.tmod y < 0 := by simpa using hb1
    rw [if_pos q3] at q
    refine cd_region ?_
    refine at_pure (pv_move rfl) rfl ?_
    refine at_pure (pv_move rfl) rfl ?_
    refine at_pure (by first | exact pv_add_n rfl rfl (by unfold In64; omega) | exact pv_add rfl rfl) rfl ?_
    refine at_pure (pv_assign rfl) rfl ?_
    refine at_nil ?_
    refine ex_go ?_
    refine cd_seq ?_
    refine cd_region ?_
    refine at_pure (pv_move rfl) rfl ?_
    refine at_pure (pv_assign rfl) rfl ?_
    refine at_nil ?_
    refine ex_go ?_
    refine cd_ret ?_
    exact end_ret1 rfl rfl (fun w hs => ⟨by rw [q], hs.keep⟩)
  · have q3 : ¬ x.tmod y < 0 := by simpa using hb1
    rw [if_neg q3] at q
    refine cd_skip ?_
    refine ex_go ?_
    refine cd_seq ?_
    refine cd_region ?_
    refine at_pure (pv_move rfl) rfl ?_
    refine at_pure (pv_assign rfl) rfl ?_
    refine at_nil ?_
    refine ex_go ?_
    refine cd_ret ?_
    exact end_ret1 rfl rfl (fun w hs => ⟨by rw [q], hs.keep⟩)

theorem left_any (g : Nat) (a : Option Addr) (len cap : Nat) (p : Int) (w : World) (hb : w.heap[g]? = some (.cells ([.slice a len cap, .int .i64 p] : List Value).toArray 76 (0, 0))) : Calls Try.prog 65 [Value.pointer (some ⟨g, 0, none⟩)].toArray w (Val (.bool (decide (p < len))) w) := by
  refine calls_body (n := 13) Try.func65 rfl rfl rfl (St.init _ []) ?_
  refine cd_seq ?_
  refine cd_region ?_
  refine at_pure (pv_assign rfl) rfl ?_
  refine at_nil ?_
  refine ex_go ?_
  refine cd_seq ?_
  refine cd_draw' 10 follows ?_
  refine dr_take 0 rfl (by kernel_rfl) (.refl _) (pv_move rfl) rfl ?_
  refine dr_take 1 rfl (by kernel_rfl) (.refl _) (pv_nilCheck rfl) rfl ?_
  refine dr_take 2 rfl (by kernel_rfl) (.refl _) (by first | exact pv_field0 fa_76_1 rfl rfl | exact pv_fieldAddr fa_76_1 rfl) rfl ?_
  refine dr_take 3 rfl (by kernel_rfl) (.refl _) (pv_load ld_3 rfl (old_cell (cell_of_block (off := 1) hb rfl) (by simp))) rfl ?_
  refine dr_take 4 rfl (by kernel_rfl) (.refl _) (pv_move rfl) rfl ?_
  refine dr_take 5 rfl (by kernel_rfl) (.refl _) (pv_nilCheck rfl) rfl ?_
  refine dr_take 6 rfl (by kernel_rfl) (.refl _) (by first | exact pv_field0 fa_76_0 rfl rfl | exact pv_fieldAddr fa_76_0 rfl) rfl ?_
  refine dr_take 7 rfl (by kernel_rfl) (.refl _) (pv_load ld_22 rfl (old_cell (cell_of_block (off := 0) hb rfl) (by simp))) rfl ?_
  refine dr_take 8 rfl (by kernel_rfl) (.refl _) (pv_len Try.underlying22 rfl) rfl ?_
  refine dr_take 9 rfl (by kernel_rfl) (.refl _) (pv_lss rfl rfl) rfl ?_
  refine dr_one 10 (by kernel_rfl) rfl ?_
  refine at_pure (pv_assign rfl) rfl ?_
  refine at_nil (dr_next (fun h => by cases h) ?_)
  refine dr_done (by kernel_rfl) ?_
  refine ex_go ?_
  refine cd_ret ?_
  exact end_ret1 rfl rfl (fun w hs => Val.mk hs)

theorem deck_next (g : Nat) (a : Option Addr) (len cap : Nat) (p n : Int) (w : World) (hb : w.heap[g]? = some (.cells ([.slice a len cap, .int .i64 p] : List Value).toArray 76 (0, 0))) (hI : Ints [g] w a len) (hp : 0 ≤ p ∧ p ≤ len) (hl : len ≤ 17592186044416) (hn : 0 < n ∧ n ≤ 4611686018427387904) : Calls Try.prog 34 [Value.pointer (some ⟨g, 0, none⟩), .int .i64 n].toArray w (Turned g 76 (fun x => .int .i64 x) (fun x p => 0 ≤ x ∧ x < n ∧ 0 ≤ p ∧ p ≤ len) (fun p => [.slice a len cap, .int .i64 p]) w) := by
  refine calls_body (n := 28) Try.func34 rfl rfl rfl (St.own hb) ?_
  refine cd_seq ?_
  refine cd_region ?_
  refine at_pure (pv_assign rfl) rfl ?_
  refine at_nil ?_
  refine ex_go ?_
  refine cd_seq ?_
  refine cd_seq ?_
  refine cd_region ?_
  refine at_pure (pv_move rfl) rfl ?_
  refine at_does (does_val cal65 rfl rfl rfl (fun w hs => left_any g a len cap p w (hs.box (i := 0) rfl))) rfl (fun _ => ?_)
  refine at_pure (pv_not rfl) rfl ?_
  refine at_nil ?_
  refine ex_go ?_
  refine cd_if rfl (fun hb1 => ?_) (fun hb1 => ?_)
  · skip
    refine cd_seq ?_
    refine cd_region ?_
    refine at_pure (pv_assign rfl) rfl ?_
    refine at_nil ?_
    refine ex_go ?_
    refine cd_ret ?_
    refine ex_then_ret ?_
    exact end_ret1 rfl rfl (fun w hs => by first | exact Turned.mk 0 p ⟨by omega, by omega, hp.1, hp.2⟩ rfl hs .z | exact Turned.mk (z % n) (p + 1) ⟨Int.emod_nonneg _ (by omega), Int.emod_lt_of_pos _ hn.1, by omega, by omega⟩ rfl hs .z)
  · skip
    refine cd_skip ?_
    refine ex_go ?_
    refine cd_seq ?_
    have q1 : p < (len : Int) := by simpa using hb1
    obtain ⟨A, rfl, hA0, hA1, hA⟩ := hI.resolve_left (by omega)
    obtain ⟨z, hz⟩ := hA (p + 1 - 1).toNat (by omega)
    refine cd_region ?_
    refine at_pure (pv_move rfl) rfl ?_
    refine at_pure (pv_nilCheck rfl) rfl ?_
    refine at_pure (pv_field0 fa_76_1 rfl (r := 1) rfl) rfl ?_
    refine at_pure (by exact pv_load ld_3 rfl (box_cell .z (.s .z))) rfl ?_
    refine at_pure (by first | exact pv_add_n rfl rfl (by unfold In64; omega) | exact pv_add rfl rfl) rfl ?_
    refine at_pure (pv_nilCheck rfl) rfl ?_
    refine at_pure (pv_field0 fa_76_1 rfl (r := 1) rfl) rfl ?_
    refine at_turns (by exact turns_store sz_3 rfl rfl (.one rfl) rfl rfl .z (.skip (.rep .done)) .z) ?_
    refine at_nil ?_
    refine ex_go ?_
    refine cd_seq ?_
    refine cd_draw' 13 follows ?_
    refine dr_take 0 rfl (by kernel_rfl) (.refl _) (pv_move rfl) rfl ?_
    refine dr_take 1 rfl (by kernel_rfl) (.refl _) (pv_nilCheck rfl) rfl ?_
    refine dr_take 2 rfl (by kernel_rfl) (.refl _) (pv_field0 fa_76_0 rfl (r := 0) rfl) rfl ?_
    refine dr_take 3 rfl (by kernel_rfl) (.refl _) (by exact pv_load ld_22 rfl (box_cell .z .z)) rfl ?_
    refine dr_take 4 rfl (by kernel_rfl) (.refl _) (pv_move rfl) rfl ?_
    refine dr_take 5 rfl (by kernel_rfl) (.refl _) (pv_nilCheck rfl) rfl ?_
    refine dr_take 6 rfl (by kernel_rfl) (.refl _) (pv_field0 fa_76_1 rfl (r := 1) rfl) rfl ?_
    refine dr_take 7 rfl (by kernel_rfl) (.refl _) (by exact pv_load ld_3 rfl (box_cell .z (.s .z))) rfl ?_
    refine dr_take 8 rfl (by kernel_rfl) (.refl _) (by first | exact pv_sub_n rfl rfl (by unfold In64; omega) | exact pv_sub rfl rfl) rfl ?_
    refine dr_take 9 rfl (by kernel_rfl) (.refl _) (pv_index Try.underlying22 cz_3 rfl rfl (by omega)) rfl ?_
    refine dr_take 10 rfl (by kernel_rfl) (.refl _) (pv_load ld_3 rfl (old_cell (by rw [Nat.mul_one]; exact hz) (by rw [add_block]; exact hA1))) rfl ?_
    refine dr_take 11 rfl (by kernel_rfl) (.refl _) (pv_move rfl) rfl ?_
    refine dr_one 12 (by kernel_rfl) rfl ?_
    refine at_does (does_val cal13 rfl rfl rfl (fun w hs => mod_any z n w hn)) rfl (fun _ => ?_)
    refine at_nil (dr_next (fun _ => (.refl _)) ?_)
    refine dr_one 13 (by kernel_rfl) rfl ?_
    refine at_pure (pv_assign rfl) rfl ?_
    refine at_nil (dr_next (fun h => by cases h) ?_)
    refine dr_done (by kernel_rfl) ?_
    refine ex_go ?_
    refine cd_ret ?_
    exact end_ret1 rfl rfl (fun w hs => by first | exact Turned.mk 0 p ⟨by omega, by omega, hp.1, hp.2⟩ rfl hs .z | exact Turned.mk (z % n) (p + 1) ⟨Int.emod_nonneg _ (by omega), Int.emod_lt_of_pos _ hn.1, by omega, by omega⟩ rfl hs .z)

theorem deck_range (g : Nat) (a : Option Addr) (len cap : Nat) (p lo hi : Int) (w : World) (hb : w.heap[g]? = some (.cells ([.slice a len cap, .int .i64 p] : List Value).toArray 76 (0, 0))) (hI : Ints [g] w a len) (hp : 0 ≤ p ∧ p ≤ len) (hl : len ≤ 17592186044416) (hn : 0 ≤ lo ∧ lo ≤ hi ∧ hi ≤ 1152921504606846976) : Calls Try.prog 33 [Value.pointer (some ⟨g, 0, none⟩), .int .i64 lo, .int .i64 hi].toArray w (Turned g 76 (fun x => .int .i64 x) (fun x p => lo ≤ x ∧ x ≤ hi ∧ 0 ≤ p ∧ p ≤ len) (fun p => [.slice a len cap, .int .i64 p]) w) := by
  refine calls_body (n := 15) Try.func33 rfl rfl rfl (St.own hb) ?_
  refine cd_seq ?_
  refine cd_region ?_
  refine at_pure (pv_assign rfl) rfl ?_
  refine at_nil ?_
  refine ex_go ?_
  refine cd_seq ?_
  refine cd_region ?_
  refine at_pure (pv_move rfl) rfl ?_
  refine at_pure (pv_move rfl) rfl ?_
  refine at_pure (pv_move rfl) rfl ?_
  refine at_pure (pv_move rfl) rfl ?_
  refine at_pure (by first | exact pv_sub_n rfl rfl (by unfold In64; omega) | exact pv_sub rfl rfl) rfl ?_
  refine at_pure (by first | exact pv_add_n rfl rfl (by unfold In64; omega) | exact pv_add rfl rfl) rfl ?_
  refine at_hand (does_hand cal34 rfl rfl rfl .z (fun w hs => by have h9 := deck_next g a len cap p (hi - lo + 1) w (hs.box (i := 0) rfl) (hI.keep hs.keep) hp hl (by omega); exact h9) (fun _ => .z)) rfl (fun x p' hx => ?_)
  obtain ⟨hx1, hx2, hx3, hx4⟩ := hx
  refine at_pure (by first | exact pv_add_n rfl rfl (by unfold In64; omega) | exact pv_add rfl rfl) rfl ?_
  refine at_pure (pv_assign rfl) rfl ?_
  refine at_nil ?_
  refine ex_go ?_
  refine cd_ret ?_
  exact end_ret1 rfl rfl (fun w hs => Turned.mk (lo + x) p' ⟨by omega, by omega, hx3, hx4⟩ rfl hs .z)

theorem deck_new (a : Option Addr) (len cap : Nat) (w : World) : Calls Try.prog 12 [.slice a len cap].toArray w (Gives (fun g : Nat => Value.pointer (some ⟨g, 0, none⟩)) (fun g => [Box g [.slice a len cap, .int .i64 0] 76]) w) := by
  refine calls_body (n := 6) Try.func12 rfl rfl rfl (St.init _ []) ?_
  refine cd_seq ?_
  refine cd_region ?_
  refine at_pure (pv_assign rfl) rfl ?_
  refine at_nil ?_
  refine ex_go ?_
  refine cd_seq ?_
  refine cd_region ?_
  refine at_pure (pv_move rfl) rfl ?_
  refine at_pure (pv_build rfl (bu_76_0 _ _ _)) rfl ?_
  refine at_does (does_box rfl .agg (fun _ => .nil)) rfl (fun g1 => ?_)
  refine at_pure (pv_assign rfl) rfl ?_
  refine at_nil ?_
  refine ex_go ?_
  refine cd_ret ?_
  exact end_ret1 rfl rfl (fun w hs => Gives.mk _ rfl rfl hs)

structure MZ where
  ns : List Q4
  ls : List Q4
  cs : List Int
  an : Option Addr
  al : Option Addr
  ac : Option Addr
  cn : Nat
  cl : Nat
  cc : Nat
structure MillOk (z : MZ) : Prop where
  valid : validS z.ns z.ls = true
  n8 : z.ns.length ≤ 8
  l12 : z.ls.length ≤ 12
  clen : z.cs.length = z.ns.length
  cost : ∀ c ∈ z.cs, 0 ≤ c ∧ c < 12
theorem add_ok {ns ls : List Q4} {n : Q4} (h : addErr ns ls n = 0) : validS (addN ns ls n) (addL ns ls n) = true ∧ addL ns ls n = ls ∧ (addN ns ls n).length = ns.length + 1 := by
  have e1 : addN ns ls n = insN ns n := by unfold addN; rw [h]; rfl
  have e2 : addL ns ls n = ls := by unfold addL; rw [h]; rfl
  rw [e1, e2]
  exact ⟨add_valid h, rfl, insN_len⟩
theorem con_ok {ns ls : List Q4} {n : Q4} (h : conErr ns ls n = 0) : validS (conN ns ls n) (conL ns ls n) = true ∧ (conN ns ls n).length = ns.length ∧ (conL ns ls n).length = ls.length + 1 := by
  have e1 : conN ns ls n = ns := by unfold conN; rw [h]; rfl
  have e2 : conL ns ls n = insL ls n := by unfold conL; rw [h]; rfl
  rw [e1, e2]
  exact ⟨con_valid h, rfl, insL_len⟩

set_option maxRecDepth 10000 in
set_option maxHeartbeats 4000000 in
theorem graph_any (g : Nat) (a : Option Addr) (len cap : Nat) (p : Int) (w : World) (hb : w.heap[g]? = some (.cells ([.slice a len cap, .int .i64 p] : List Value).toArray 76 (0, 0))) (hI : Ints [g] w a len) (hp : 0 ≤ p ∧ p ≤ len) (hl : len ≤ 17592186044416) : Calls Try.prog 11 [Value.pointer (some ⟨g, 0, none⟩)].toArray w (Made g (fun z : MZ => .tuple #[.agg #[.slice z.an z.ns.length z.cn, .slice z.al z.ls.length z.cl], .slice z.ac z.cs.length z.cc]) (fun z => [RowP enc4 4 70 z.an z.cn z.ns, RowP enc4 4 61 z.al z.cl z.ls, RowP enc1 1 3 z.ac z.cc z.cs]) MillOk w) := by
  refine calls_body (n := 121) Try.func11 rfl rfl rfl (St.own hb) ?_
  refine cd_seq ?_
  refine cd_region ?_
  refine at_does (does_alloc ze_28 .agg (fun _ => (.cons .nil))) rfl (fun g1 => ?_)
  refine at_pure (pv_assign rfl) rfl ?_
  refine at_nil ?_
  refine ex_go ?_
  refine cd_seq ?_
  refine cd_region ?_
  refine at_does (does_alloc ze_28 .agg (fun _ => (.cons (.cons .nil)))) rfl (fun g2 => ?_)
  refine at_nil ?_
  refine ex_go ?_
  refine cd_seq ?_
  refine Cd.addNil 70 enc4 4 (.cons (.cons (.cons .nil))) ?_
  refine Cd.addNil 61 enc4 4 (.cons (.cons (.cons (.cons .nil)))) ?_
  refine cd_region ?_
  refine at_pure (pv_move rfl) rfl ?_
  refine at_hand (does_hand cal33 rfl rfl rfl .z (fun w hs => by have h9 := deck_range g a len cap p 0 8 w (hs.box (i := 0) rfl) (hI.keep hs.keep) (by omega) hl (by omega); exact h9) (fun _ => .z)) rfl (fun x1 p1 hx1 => ?_)
  obtain ⟨h1a, h1b, h1c, h1d⟩ := hx1
  refine at_pure (pv_assign rfl) rfl ?_
  refine at_nil ?_
  refine ex_go ?_
  refine cd_cut (σ := Int × MZ) (fun s => [(0, Value.pointer (some ⟨g, 0, none⟩)), (2, Value.pointer (some ⟨g1, 0, none⟩)), (4, Value.pointer (some ⟨g2, 0, none⟩))]) (fun s => [Box g [.slice a len cap, .int .i64 s.1] 76, Box g1 [.slice none 0 0, .slice none 0 0] 28, Box g2 [.slice s.2.an s.2.ns.length s.2.cn, .slice s.2.al s.2.ls.length s.2.cl] 28, RowP enc4 4 70 s.2.an s.2.cn s.2.ns, RowP enc4 4 61 s.2.al s.2.cl s.2.ls]) (fun s => (0 ≤ s.1 ∧ s.1 ≤ len) ∧ validS s.2.ns s.2.ls = true ∧ s.2.ls = [] ∧ s.2.ns.length ≤ 8) ?_ ?_
  · skip
    refine cd_seq ?_
    refine cd_region ?_
    refine at_pure (pv_assign rfl) rfl ?_
    refine at_nil ?_
    refine ex_go ?_
    refine cd_block ?_
    refine cd_loop (σ := Int × Int × MZ) (fun s => [(0, Value.pointer (some ⟨g, 0, none⟩)), (2, Value.pointer (some ⟨g1, 0, none⟩)), (4, Value.pointer (some ⟨g2, 0, none⟩)), (5, .int .i64 x1), (6, .int .i64 s.2.1)]) (fun s => [Box g [.slice a len cap, .int .i64 s.1] 76, Box g1 [.slice none 0 0, .slice none 0 0] 28, Box g2 [.slice s.2.2.an s.2.2.ns.length s.2.2.cn, .slice s.2.2.al s.2.2.ls.length s.2.2.cl] 28, RowP enc4 4 70 s.2.2.an s.2.2.cn s.2.2.ns, RowP enc4 4 61 s.2.2.al s.2.2.cl s.2.2.ls]) (fun s => (0 ≤ s.1 ∧ s.1 ≤ len) ∧ 0 ≤ s.2.1 ∧ validS s.2.2.ns s.2.2.ls = true ∧ s.2.2.ls = [] ∧ s.2.2.ns.length ≤ s.2.1 ∧ s.2.1 ≤ x1) (fun s => (x1 - s.2.1).toNat) (p1, 0, ⟨[], [], [], none, none, none, 0, 0, 0⟩) (by refine ⟨⟨h1c, h1d⟩, by simp, (show validS [] [] = true by decide), rfl, by simp, h1a⟩) ⟨rfl, rfl, rfl, rfl, rfl, trivial⟩ (by repeat first | exact sLn _ | apply sLc | apply sLd) ?_
    rintro ⟨p, i, z⟩ ⟨hp, hi, hv, hz, hzi, hi1⟩
    dsimp only at hp hi hv hz hzi hi1 ⊢
    refine cd_seq ?_
    refine cd_seq ?_
    refine cd_region ?_
    refine at_pure (pv_move rfl) rfl ?_
    refine at_pure (pv_move rfl) rfl ?_
    refine at_pure (pv_lss rfl rfl) rfl ?_
    refine at_nil ?_
    refine ex_go ?_
    refine cd_if rfl (fun hlt => ?_) (fun hlt => ?_)
    · have hin : i < x1 := by simpa using hlt
      refine cd_skip ?_
      refine ex_go ?_
      refine cd_seq ?_
      refine cd_block ?_
      refine cd_seq ?_
      refine cd_region ?_
      refine at_pure (pv_move rfl) rfl ?_
      refine at_pure (by first | exact pv_mul_n rfl rfl (by unfold In64; omega) | exact pv_mul rfl rfl) rfl ?_
      refine at_pure (by first | exact pv_add_n rfl rfl (by unfold In64; omega) | exact pv_add rfl rfl) rfl ?_
      refine at_pure (pv_move rfl) rfl ?_
      refine at_hand (does_hand cal34 rfl rfl rfl .z (fun w hs => by have h9 := deck_next g a len cap p (3) w (hs.box (i := 0) rfl) (hI.keep hs.keep) (by omega) hl (by omega); exact h9) (fun _ => .z)) rfl (fun x2 p2 hx2 => ?_)
      obtain ⟨h2a, h2b, h2c, h2d⟩ := hx2
      refine at_pure (by first | exact pv_add_n rfl rfl (by unfold In64; omega) | exact pv_add rfl rfl) rfl ?_
      refine at_pure (pv_move rfl) rfl ?_
      refine at_hand (does_hand cal33 rfl rfl rfl .z (fun w hs => by have h9 := deck_range g a len cap p2 1 5 w (hs.box (i := 0) rfl) (hI.keep hs.keep) (by omega) hl (by omega); exact h9) (fun _ => .z)) rfl (fun x3 p3 hx3 => ?_)
      obtain ⟨h3a, h3b, h3c, h3d⟩ := hx3
      refine at_pure (pv_build rfl (bu_70_0_1 _ _)) rfl ?_
      refine at_does (does_alloc ze_70 .agg (fun _ => (.cons (.cons (.cons (.cons (.cons .nil))))))) rfl (fun g3 => ?_)
      refine at_turns (by exact turns_store sz_70 rfl rfl .agg rfl rfl (.s (.s (.s (.s (.s .z))))) (.rep (.rep (.rep (.rep .done)))) (.s (.s (.s (.s (.s .z)))))) ?_
      refine at_nil ?_
      refine ex_go ?_
      refine cd_cut (σ := Q4 × Int) (fun s => [(0, Value.pointer (some ⟨g, 0, none⟩)), (2, Value.pointer (some ⟨g1, 0, none⟩)), (4, Value.pointer (some ⟨g2, 0, none⟩)), (5, .int .i64 x1), (6, .int .i64 i), (7, Value.pointer (some ⟨g3, 0, none⟩))]) (fun s => [Box g [.slice a len cap, .int .i64 s.2] 76, Box g1 [.slice none 0 0, .slice none 0 0] 28, Box g2 [.slice z.an z.ns.length z.cn, .slice z.al z.ls.length z.cl] 28, RowP enc4 4 70 z.an z.cn z.ns, RowP enc4 4 61 z.al z.cl z.ls, Box g3 (enc4 s.1) 70]) (fun s => 0 ≤ s.2 ∧ s.2 ≤ len) ?_ ?_
      · skip
        refine cd_seq ?_
        refine cd_region ?_
        refine at_pure (pv_field0 fa_70_1 rfl (r := 1) rfl) rfl ?_
        refine at_pure (by exact pv_load ld_3 rfl (box_cell (.s (.s (.s (.s (.s .z))))) (.s .z))) rfl ?_
        refine at_nil ?_
        refine ex_go ?_
        refine cd_block ?_
        refine cd_seq ?_
        refine cd_region ?_
        refine at_pure (pv_eql rfl rfl) rfl ?_
        refine at_pure (pv_assign rfl) rfl ?_
        refine at_nil ?_
        refine ex_go ?_
        refine cd_if rfl (fun hb2 => ?_) (fun hb2 => ?_)
        · skip
          refine cd_region ?_
          refine at_pure (pv_field0 fa_70_3 rfl (r := 3) rfl) rfl ?_
          refine at_turns (by exact turns_store sz_3 rfl rfl (.one rfl) rfl rfl (.s (.s (.s (.s (.s .z))))) (.skip (.skip (.skip (.rep .done)))) (.s (.s (.s (.s (.s .z)))))) ?_
          refine at_nil ?_
          refine ex_in_normal ?_
          first | exact ex_meet ((_, _, _, _), p3) ⟨h3c, h3d⟩ ⟨rfl, rfl, rfl, rfl, rfl, rfl, trivial⟩ (List.Sublist.refl _) | exact ex_meet ((_, _, _, _), p5) ⟨h5c, h5d⟩ ⟨rfl, rfl, rfl, rfl, rfl, rfl, trivial⟩ (List.Sublist.refl _) | exact ex_meet ((_, _, _, _), p6) ⟨h6c, h6d⟩ ⟨rfl, rfl, rfl, rfl, rfl, rfl, trivial⟩ (List.Sublist.refl _)
        · skip
          refine cd_seq ?_
          refine cd_region ?_
          refine at_pure (pv_eql rfl rfl) rfl ?_
          refine at_pure (pv_assign rfl) rfl ?_
          refine at_nil ?_
          refine ex_go ?_
          refine cd_if rfl (fun hb3 => ?_) (fun hb3 => ?_)
          · skip
            refine cd_region ?_
            refine at_pure (pv_field0 fa_70_2 rfl (r := 2) rfl) rfl ?_
            refine at_turns (by exact turns_store sz_3 rfl rfl (.one rfl) rfl rfl (.s (.s (.s (.s (.s .z))))) (.skip (.skip (.rep .done))) (.s (.s (.s (.s (.s .z)))))) ?_
            refine at_nil ?_
            refine ex_in_normal ?_
            first | exact ex_meet ((_, _, _, _), p3) ⟨h3c, h3d⟩ ⟨rfl, rfl, rfl, rfl, rfl, rfl, trivial⟩ (List.Sublist.refl _) | exact ex_meet ((_, _, _, _), p5) ⟨h5c, h5d⟩ ⟨rfl, rfl, rfl, rfl, rfl, rfl, trivial⟩ (List.Sublist.refl _) | exact ex_meet ((_, _, _, _), p6) ⟨h6c, h6d⟩ ⟨rfl, rfl, rfl, rfl, rfl, rfl, trivial⟩ (List.Sublist.refl _)
          · skip
            refine cd_seq ?_
            refine cd_region ?_
            refine at_pure (pv_eql rfl rfl) rfl ?_
            refine at_pure (pv_assign rfl) rfl ?_
            refine at_nil ?_
            refine ex_go ?_
            refine cd_if rfl (fun hb4 => ?_) (fun hb4 => ?_)
            · skip
              refine cd_region ?_
              refine at_pure (pv_move rfl) rfl ?_
              refine at_hand (does_hand cal33 rfl rfl rfl .z (fun w hs => by have h9 := deck_range g a len cap p3 1 3 w (hs.box (i := 0) rfl) (hI.keep hs.keep) (by omega) hl (by omega); exact h9) (fun _ => .z)) rfl (fun x5 p5 hx5 => ?_)
              obtain ⟨h5a, h5b, h5c, h5d⟩ := hx5
              refine at_pure (pv_field0 fa_70_2 rfl (r := 2) rfl) rfl ?_
              refine at_turns (by exact turns_store sz_3 rfl rfl (.one rfl) rfl rfl (.s (.s (.s (.s (.s .z))))) (.skip (.skip (.rep .done))) (.s (.s (.s (.s (.s .z)))))) ?_
              refine at_pure (pv_field0 fa_70_3 rfl (r := 3) rfl) rfl ?_
              refine at_turns (by exact turns_store sz_3 rfl rfl (.one rfl) rfl rfl (.s (.s (.s (.s (.s .z))))) (.skip (.skip (.skip (.rep .done)))) (.s (.s (.s (.s (.s .z)))))) ?_
              refine at_nil ?_
              refine ex_in_normal ?_
              first | exact ex_meet ((_, _, _, _), p3) ⟨h3c, h3d⟩ ⟨rfl, rfl, rfl, rfl, rfl, rfl, trivial⟩ (List.Sublist.refl _) | exact ex_meet ((_, _, _, _), p5) ⟨h5c, h5d⟩ ⟨rfl, rfl, rfl, rfl, rfl, rfl, trivial⟩ (List.Sublist.refl _) | exact ex_meet ((_, _, _, _), p6) ⟨h6c, h6d⟩ ⟨rfl, rfl, rfl, rfl, rfl, rfl, trivial⟩ (List.Sublist.refl _)
            · skip
              refine cd_seq ?_
              refine cd_region ?_
              refine at_pure (pv_eql rfl rfl) rfl ?_
              refine at_pure (pv_assign rfl) rfl ?_
              refine at_nil ?_
              refine ex_go ?_
              refine cd_if rfl (fun hb5 => ?_) (fun hb5 => ?_)
              · skip
                refine cd_region ?_
                refine at_pure (pv_field0 fa_70_2 rfl (r := 2) rfl) rfl ?_
                refine at_turns (by exact turns_store sz_3 rfl rfl (.one rfl) rfl rfl (.s (.s (.s (.s (.s .z))))) (.skip (.skip (.rep .done))) (.s (.s (.s (.s (.s .z)))))) ?_
                refine at_pure (pv_field0 fa_70_3 rfl (r := 3) rfl) rfl ?_
                refine at_turns (by exact turns_store sz_3 rfl rfl (.one rfl) rfl rfl (.s (.s (.s (.s (.s .z))))) (.skip (.skip (.skip (.rep .done)))) (.s (.s (.s (.s (.s .z)))))) ?_
                refine at_nil ?_
                refine ex_in_normal ?_
                first | exact ex_meet ((_, _, _, _), p3) ⟨h3c, h3d⟩ ⟨rfl, rfl, rfl, rfl, rfl, rfl, trivial⟩ (List.Sublist.refl _) | exact ex_meet ((_, _, _, _), p5) ⟨h5c, h5d⟩ ⟨rfl, rfl, rfl, rfl, rfl, rfl, trivial⟩ (List.Sublist.refl _) | exact ex_meet ((_, _, _, _), p6) ⟨h6c, h6d⟩ ⟨rfl, rfl, rfl, rfl, rfl, rfl, trivial⟩ (List.Sublist.refl _)
              · skip
                refine cd_region ?_
                refine at_pure (pv_move rfl) rfl ?_
                refine at_hand (does_hand cal33 rfl rfl rfl .z (fun w hs => by have h9 := deck_range g a len cap p3 1 3 w (hs.box (i := 0) rfl) (hI.keep hs.keep) (by omega) hl (by omega); exact h9) (fun _ => .z)) rfl (fun x6 p6 hx6 => ?_)
                obtain ⟨h6a, h6b, h6c, h6d⟩ := hx6
                refine at_pure (pv_field0 fa_70_2 rfl (r := 2) rfl) rfl ?_
                refine at_turns (by exact turns_store sz_3 rfl rfl (.one rfl) rfl rfl (.s (.s (.s (.s (.s .z))))) (.skip (.skip (.rep .done))) (.s (.s (.s (.s (.s .z)))))) ?_
                refine at_pure (pv_field0 fa_70_3 rfl (r := 3) rfl) rfl ?_
                refine at_turns (by exact turns_store sz_3 rfl rfl (.one rfl) rfl rfl (.s (.s (.s (.s (.s .z))))) (.skip (.skip (.skip (.rep .done)))) (.s (.s (.s (.s (.s .z)))))) ?_
                refine at_nil ?_
                refine ex_in_normal ?_
                first | exact ex_meet ((_, _, _, _), p3) ⟨h3c, h3d⟩ ⟨rfl, rfl, rfl, rfl, rfl, rfl, trivial⟩ (List.Sublist.refl _) | exact ex_meet ((_, _, _, _), p5) ⟨h5c, h5d⟩ ⟨rfl, rfl, rfl, rfl, rfl, rfl, trivial⟩ (List.Sublist.refl _) | exact ex_meet ((_, _, _, _), p6) ⟨h6c, h6d⟩ ⟨rfl, rfl, rfl, rfl, rfl, rfl, trivial⟩ (List.Sublist.refl _)
      · rintro ⟨q, p4⟩ ⟨h4p, h4q⟩; dsimp only at h4p h4q
        refine cd_seq ?_
        refine cd_region ?_
        refine at_pure (by exact pv_loads_box ag_28 rfl (.s (.s .z)) (.take (.take .done))) rfl ?_
        refine at_pure (by exact pv_loads_box ag_70 rfl (.s (.s (.s (.s (.s .z))))) (.take (.take (.take (.take .done))))) rfl ?_
        refine at_does (does_gives (X := (Option Addr × Nat) × (Option Addr × Nat)) (val := fun u => .tuple #[.agg #[.slice u.1.1 (addN z.ns z.ls q).length u.1.2, .slice u.2.1 (addL z.ns z.ls q).length u.2.2], .int .i64 (addErr z.ns z.ls q)]) (Δ := fun u => [RowP enc4 4 70 u.1.1 u.1.2 (addN z.ns z.ls q), RowP enc4 4 61 u.2.1 u.2.2 (addL z.ns z.ls q)]) cal35 rfl rfl rfl (fun w hs => by have h9 := add_ref z.an z.al z.cn z.cl z.ns z.ls q w (hs.rows len4 (by decide) (.s (.s (.s .z)))) (hs.rows len4 (by decide) (.s (.s (.s (.s .z))))); exact h9) (fun _ => (.cons (.cons (.cons (.cons (.cons (.cons .nil)))))))) rfl (fun y => ?_)
        refine at_pure (pv_move rfl) rfl ?_
        refine at_pure (pv_extract rfl rfl) rfl ?_
        refine at_pure (pv_extract rfl rfl) rfl ?_
        refine at_does (does_alloc ze_28 .agg (fun _ => (.cons (.cons (.cons (.cons (.cons (.cons (.cons (.cons .nil)))))))))) rfl (fun g4 => ?_)
        refine at_turns (by exact turns_store sz_28 rfl rfl .agg rfl rfl (.s (.s (.s (.s (.s (.s (.s (.s .z)))))))) (.rep (.rep .done)) (.s (.s (.s (.s (.s (.s (.s (.s .z))))))))) ?_
        refine at_pure (pv_assign rfl) rfl ?_
        refine at_nil ?_
        refine ex_go ?_
        refine cd_seq ?_
        refine cd_region ?_
        refine at_pure (pv_move rfl) rfl ?_
        refine at_pure (pv_eql rfl rfl) rfl ?_
        refine at_nil ?_
        refine ex_go ?_
        refine cd_if rfl (fun herr => ?_) (fun herr => ?_)
        · skip
          refine cd_region ?_
          refine at_pure (by exact pv_loads_box ag_28 rfl (.s (.s (.s (.s (.s (.s (.s (.s .z)))))))) (.take (.take .done))) rfl ?_
          refine at_turns (by exact turns_store sz_28 rfl rfl .agg rfl rfl (.s (.s .z)) (.rep (.rep .done)) (.s (.s .z))) ?_
          refine at_nil ?_
          refine ex_in_normal (ex_go ?_)
          refine cd_region ?_
          refine at_pure (pv_move rfl) rfl ?_
          refine at_pure (by first | exact pv_add_n rfl rfl (by unfold In64; omega) | exact pv_add rfl rfl) rfl ?_
          refine at_pure (pv_assign rfl) rfl ?_
          refine at_nil ?_
          first | exact ex_meet (p4, i + 1, ⟨addN z.ns z.ls q, addL z.ns z.ls q, [], y.1.1, y.2.1, none, y.1.2, y.2.2, 0⟩) ⟨(by have hk := add_ok (beq_iff_eq.1 herr); exact ⟨⟨h4p, h4q⟩, by dsimp only; omega, hk.1, hk.2.1.trans hz, by dsimp only; rw [hk.2.2]; omega, by dsimp only; omega⟩), by dsimp only; omega⟩ ⟨rfl, rfl, rfl, rfl, rfl, trivial⟩ (by repeat first | exact sLn _ | apply sLc | apply sLd) | exact ex_meet (p4, i + 1, z) ⟨⟨⟨h4p, h4q⟩, by dsimp only; omega, hv, hz, by dsimp only; omega, by dsimp only; omega⟩, by dsimp only; omega⟩ ⟨rfl, rfl, rfl, rfl, rfl, trivial⟩ (by repeat first | exact sLn _ | apply sLc | apply sLd)
        · skip
          refine cd_skip ?_
          refine ex_in_normal (ex_go ?_)
          refine cd_region ?_
          refine at_pure (pv_move rfl) rfl ?_
          refine at_pure (by first | exact pv_add_n rfl rfl (by unfold In64; omega) | exact pv_add rfl rfl) rfl ?_
          refine at_pure (pv_assign rfl) rfl ?_
          refine at_nil ?_
          first | exact ex_meet (p4, i + 1, ⟨addN z.ns z.ls q, addL z.ns z.ls q, [], y.1.1, y.2.1, none, y.1.2, y.2.2, 0⟩) ⟨(by have hk := add_ok (beq_iff_eq.1 herr); exact ⟨⟨h4p, h4q⟩, by dsimp only; omega, hk.1, hk.2.1.trans hz, by dsimp only; rw [hk.2.2]; omega, by dsimp only; omega⟩), by dsimp only; omega⟩ ⟨rfl, rfl, rfl, rfl, rfl, trivial⟩ (by repeat first | exact sLn _ | apply sLc | apply sLd) | exact ex_meet (p4, i + 1, z) ⟨⟨⟨h4p, h4q⟩, by dsimp only; omega, hv, hz, by dsimp only; omega, by dsimp only; omega⟩, by dsimp only; omega⟩ ⟨rfl, rfl, rfl, rfl, rfl, trivial⟩ (by repeat first | exact sLn _ | apply sLc | apply sLd)
    · skip
      refine cd_exit ?_
      refine ex_then_exit (ex_then_exit (ex_in ?_))
      exact ex_meet (p, z) ⟨hp, hv, hz, by dsimp only; omega⟩ ⟨rfl, rfl, rfl, trivial⟩ (List.Sublist.refl _)
  · rintro ⟨p7, z0⟩ ⟨hp7, hv0, hz0, hn0⟩; dsimp only at hp7 hv0 hz0 hn0
    refine cd_cut (σ := Int × MZ) (fun s => [(0, Value.pointer (some ⟨g, 0, none⟩)), (2, Value.pointer (some ⟨g1, 0, none⟩)), (4, Value.pointer (some ⟨g2, 0, none⟩))]) (fun s => [Box g [.slice a len cap, .int .i64 s.1] 76, Box g1 [.slice none 0 0, .slice none 0 0] 28, Box g2 [.slice s.2.an s.2.ns.length s.2.cn, .slice s.2.al s.2.ls.length s.2.cl] 28, RowP enc4 4 70 s.2.an s.2.cn s.2.ns, RowP enc4 4 61 s.2.al s.2.cl s.2.ls]) (fun s => (0 ≤ s.1 ∧ s.1 ≤ len) ∧ validS s.2.ns s.2.ls = true ∧ s.2.ns.length ≤ 8 ∧ s.2.ls.length ≤ 12) ?_ ?_
    · skip
      refine cd_seq ?_
      refine cd_region ?_
      refine at_pure (pv_move rfl) rfl ?_
      refine at_hand (does_hand cal33 rfl rfl rfl .z (fun w hs => by have h9 := deck_range g a len cap p7 0 12 w (hs.box (i := 0) rfl) (hI.keep hs.keep) (by omega) hl (by omega); exact h9) (fun _ => .z)) rfl (fun x8 p8 hx8 => ?_)
      obtain ⟨h8a, h8b, h8c, h8d⟩ := hx8
      refine at_pure (pv_assign rfl) rfl ?_
      refine at_nil ?_
      refine ex_go ?_
      refine cd_block ?_
      refine cd_loop (σ := Int × Int × MZ) (fun s => [(0, Value.pointer (some ⟨g, 0, none⟩)), (2, Value.pointer (some ⟨g1, 0, none⟩)), (4, Value.pointer (some ⟨g2, 0, none⟩)), (10, .int .i64 s.2.1)]) (fun s => [Box g [.slice a len cap, .int .i64 s.1] 76, Box g1 [.slice none 0 0, .slice none 0 0] 28, Box g2 [.slice s.2.2.an s.2.2.ns.length s.2.2.cn, .slice s.2.2.al s.2.2.ls.length s.2.2.cl] 28, RowP enc4 4 70 s.2.2.an s.2.2.cn s.2.2.ns, RowP enc4 4 61 s.2.2.al s.2.2.cl s.2.2.ls]) (fun s => (0 ≤ s.1 ∧ s.1 ≤ len) ∧ validS s.2.2.ns s.2.2.ls = true ∧ s.2.2.ns.length ≤ 8 ∧ 0 ≤ s.2.1 ∧ s.2.2.ls.length + s.2.1 ≤ 12) (fun s => s.2.1.toNat) (p8, x8, z0) (by refine ⟨⟨h8c, h8d⟩, hv0, hn0, h8a, ?_⟩; dsimp only; rw [hz0]; simp; omega) ⟨rfl, rfl, rfl, rfl, trivial⟩ (by repeat first | exact sLn _ | apply sLc | apply sLd) ?_
      rintro ⟨p, i, z⟩ ⟨hp, hv, hn8, hi0, hli⟩
      dsimp only at hp hv hn8 hi0 hli ⊢
      refine cd_seq ?_
      refine cd_seq ?_
      refine cd_region ?_
      refine at_pure (pv_move rfl) rfl ?_
      refine at_pure (pv_gtr rfl rfl) rfl ?_
      refine at_pure (pv_move rfl) rfl ?_
      refine at_split 66 rfl (fun hb7 => ?_) (fun hb7 => ?_)
      · skip
        refine at_pure_g rfl rfl hb7 (pv_field0 fa_28_0 rfl (r := 0) rfl) rfl ?_
        refine at_pure_g rfl rfl hb7 (by exact pv_load ld_25 rfl (box_cell (.s (.s .z)) .z)) rfl ?_
        refine at_pure_g rfl rfl hb7 (pv_len Try.underlying25 rfl) rfl ?_
        refine at_pure_g rfl rfl hb7 (pv_gtr rfl rfl) rfl ?_
        refine at_pure (pv_pick_t rfl hb7 rfl) rfl ?_
        refine at_nil ?_
        refine ex_go ?_
        refine cd_if rfl (fun hb8 => ?_) (fun hb8 => ?_)
        · skip
          refine cd_skip ?_
          refine ex_go ?_
          refine cd_seq ?_
          refine cd_block ?_
          have hib : 0 < i := by simp only [decide_eq_true_eq] at *; omega
          have hnpos : 0 < z.ns.length := by simp only [decide_eq_true_eq] at *; omega
          have hat : ∀ x : Int, 0 ≤ x → x < (z.ns.length : Int) → z.ns[x.toNat]? = some (at0 z.ns x.toNat) := fun x h1 h2 => at0_get (by omega)
          refine cd_cut (σ := Q4 × Int × Nat) (fun s => [(0, Value.pointer (some ⟨g, 0, none⟩)), (2, Value.pointer (some ⟨g1, 0, none⟩)), (4, Value.pointer (some ⟨g2, 0, none⟩)), (10, .int .i64 i), (11, Value.pointer (some ⟨s.2.2, 0, none⟩))]) (fun s => [Box g [.slice a len cap, .int .i64 s.2.1] 76, Box g1 [.slice none 0 0, .slice none 0 0] 28, Box g2 [.slice z.an z.ns.length z.cn, .slice z.al z.ls.length z.cl] 28, RowP enc4 4 70 z.an z.cn z.ns, RowP enc4 4 61 z.al z.cl z.ls, Box s.2.2 (enc4 s.1) 61]) (fun s => 0 ≤ s.2.1 ∧ s.2.1 ≤ len) ?_ ?_
          · skip
            refine Cd.know (fun w hs => (hs.rows len4 (by decide) (.s (.s (.s .z)))).real) (fun hreal => ?_)
            refine cd_draw 26 [Box g1 [.slice none 0 0, .slice none 0 0] 28, Box g2 [.slice z.an z.ns.length z.cn, .slice z.al z.ls.length z.cl] 28, RowP enc4 4 70 z.an z.cn z.ns, RowP enc4 4 61 z.al z.cl z.ls] follows ?_
            refine dr_take 0 rfl (by kernel_rfl) (by repeat first | exact sLn _ | apply sLc | apply sLd) (pv_field0 fa_28_0 rfl (r := 0) rfl) rfl ?_
            refine dr_take 1 rfl (by kernel_rfl) (by repeat first | exact sLn _ | apply sLc | apply sLd) (by exact pv_load ld_25 rfl (box_cell (.s .z) .z)) rfl ?_
            refine dr_take 2 rfl (by kernel_rfl) (by repeat first | exact sLn _ | apply sLc | apply sLd) (pv_move rfl) rfl ?_
            refine dr_take 3 rfl (by kernel_rfl) (by repeat first | exact sLn _ | apply sLc | apply sLd) (pv_field0 fa_28_0 rfl (r := 0) rfl) rfl ?_
            refine dr_take 4 rfl (by kernel_rfl) (by repeat first | exact sLn _ | apply sLc | apply sLd) (by exact pv_load ld_25 rfl (box_cell (.s .z) .z)) rfl ?_
            refine dr_take 5 rfl (by kernel_rfl) (by repeat first | exact sLn _ | apply sLc | apply sLd) (pv_len Try.underlying25 rfl) rfl ?_
            refine dr_take 10 rfl (by kernel_rfl) (by repeat first | exact sLn _ | apply sLc | apply sLd) (pv_move rfl) rfl ?_
            refine dr_take 12 rfl (by kernel_rfl) (by repeat first | exact sLn _ | apply sLc | apply sLd) (pv_field0 fa_28_0 rfl (r := 0) rfl) rfl ?_
            refine dr_take 13 rfl (by kernel_rfl) (by repeat first | exact sLn _ | apply sLc | apply sLd) (by exact pv_load ld_25 rfl (box_cell (.s .z) .z)) rfl ?_
            refine dr_take 14 rfl (by kernel_rfl) (by repeat first | exact sLn _ | apply sLc | apply sLd) (pv_move rfl) rfl ?_
            refine dr_take 15 rfl (by kernel_rfl) (by repeat first | exact sLn _ | apply sLc | apply sLd) (pv_field0 fa_28_0 rfl (r := 0) rfl) rfl ?_
            refine dr_take 16 rfl (by kernel_rfl) (by repeat first | exact sLn _ | apply sLc | apply sLd) (by exact pv_load ld_25 rfl (box_cell (.s .z) .z)) rfl ?_
            refine dr_take 17 rfl (by kernel_rfl) (by repeat first | exact sLn _ | apply sLc | apply sLd) (pv_len Try.underlying25 rfl) rfl ?_
            refine dr_take 22 rfl (by kernel_rfl) (by repeat first | exact sLn _ | apply sLc | apply sLd) (pv_move rfl) rfl ?_
            refine dr_two 6 25 (by kernel_rfl) rfl rfl ?_ ?_
            · skip
              refine at_hand (does_hand cal34 rfl rfl rfl .z (fun w hs => by have h9 := deck_next g a len cap p (z.ns.length) w (hs.box (i := 0) rfl) (hI.keep hs.keep) (by omega) hl (by omega); exact h9) (fun _ => .z)) rfl (fun x10 p10 hx10 => ?_)
              obtain ⟨h10a, h10b, h10c, h10d⟩ := hx10
              refine at_nil (dr_next (fun _ => (by repeat first | exact sLn _ | apply sLc | apply sLd)) ?_)
              refine dr_take 7 rfl (by kernel_rfl) (by repeat first | exact sLn _ | apply sLc | apply sLd) (pv_ix Try.underlying25 cz_70 rfl rfl (by first | omega | (simp only [decide_eq_true_eq, decide_eq_false_iff_not] at *; omega)) hreal (k := x10.toNat) (by omega)) rfl ?_
              refine dr_take 8 rfl (by kernel_rfl) (by repeat first | exact sLn _ | apply sLc | apply sLd) (pv_fieldAddr fa_70_0 rfl) rfl ?_
              refine dr_take 9 rfl (by kernel_rfl) (by repeat first | exact sLn _ | apply sLc | apply sLd) (pv_elem ld_3 rfl (RowP.get len4 (by decide) (.s (.s .z)) (hat x10 h10a h10b) .z)) rfl ?_
              refine dr_two 11 25 (by kernel_rfl) rfl rfl ?_ ?_
              · skip
                refine at_hand (does_hand cal34 rfl rfl rfl .z (fun w hs => by have h9 := deck_next g a len cap p10 (3) w (hs.box (i := 0) rfl) (hI.keep hs.keep) (by omega) hl (by omega); exact h9) (fun _ => .z)) rfl (fun x11 p11 hx11 => ?_)
                obtain ⟨h11a, h11b, h11c, h11d⟩ := hx11
                refine at_nil (dr_next (fun _ => (by repeat first | exact sLn _ | apply sLc | apply sLd)) ?_)
                refine dr_two 18 25 (by kernel_rfl) rfl rfl ?_ ?_
                · skip
                  refine at_hand (does_hand cal34 rfl rfl rfl .z (fun w hs => by have h9 := deck_next g a len cap p11 (z.ns.length) w (hs.box (i := 0) rfl) (hI.keep hs.keep) (by omega) hl (by omega); exact h9) (fun _ => .z)) rfl (fun x12 p12 hx12 => ?_)
                  obtain ⟨h12a, h12b, h12c, h12d⟩ := hx12
                  refine at_nil (dr_next (fun _ => (by repeat first | exact sLn _ | apply sLc | apply sLd)) ?_)
                  refine dr_take 19 rfl (by kernel_rfl) (by repeat first | exact sLn _ | apply sLc | apply sLd) (pv_ix Try.underlying25 cz_70 rfl rfl (by first | omega | (simp only [decide_eq_true_eq, decide_eq_false_iff_not] at *; omega)) hreal (k := x12.toNat) (by omega)) rfl ?_
                  refine dr_take 20 rfl (by kernel_rfl) (by repeat first | exact sLn _ | apply sLc | apply sLd) (pv_fieldAddr fa_70_0 rfl) rfl ?_
                  refine dr_take 21 rfl (by kernel_rfl) (by repeat first | exact sLn _ | apply sLc | apply sLd) (pv_elem ld_3 rfl (RowP.get len4 (by decide) (.s (.s .z)) (hat x12 h12a h12b) .z)) rfl ?_
                  refine dr_two 23 25 (by kernel_rfl) rfl rfl ?_ ?_
                  · skip
                    refine at_hand (does_hand cal34 rfl rfl rfl .z (fun w hs => by have h9 := deck_next g a len cap p12 (3) w (hs.box (i := 0) rfl) (hI.keep hs.keep) (by omega) hl (by omega); exact h9) (fun _ => .z)) rfl (fun x13 p13 hx13 => ?_)
                    obtain ⟨h13a, h13b, h13c, h13d⟩ := hx13
                    refine at_nil (dr_next (fun _ => (by repeat first | exact sLn _ | apply sLc | apply sLd)) ?_)
                    refine dr_take 24 rfl (by kernel_rfl) (by repeat first | exact sLn _ | apply sLc | apply sLd) (pv_build rfl (bu_61_0_1_2_3 _ _ _ _)) rfl ?_
                    refine dr_one 25 (by kernel_rfl) rfl ?_
                    refine at_does (does_alloc ze_61 .agg (fun _ => (.cons (.cons (.cons (.cons (.cons .nil))))))) rfl (fun g5 => ?_)
                    refine at_nil (dr_next (fun _ => (by repeat first | exact sLn _ | apply sLc | apply sLd)) ?_)
                    refine dr_one 26 (by kernel_rfl) rfl ?_
                    refine at_turns (by exact turns_store sz_61 rfl rfl .agg rfl rfl (.s (.s (.s (.s (.s .z))))) (.rep (.rep (.rep (.rep .done)))) (.s (.s (.s (.s (.s .z)))))) ?_
                    refine at_nil (dr_next (fun h => by cases h) ?_)
                    refine dr_done (by kernel_rfl) ?_
                    exact ex_meet (((at0 z.ns x10.toNat).1, x11, (at0 z.ns x12.toNat).1, x13), p13, _) ⟨h13c, h13d⟩ ⟨rfl, rfl, rfl, rfl, rfl, trivial⟩ (List.Sublist.refl _)
                  · skip
                    refine at_does (does_alloc ze_61 .agg (fun _ => (.cons (.cons (.cons (.cons (.cons .nil))))))) rfl (fun g6 => ?_)
                    refine at_nil (dr_next (fun _ => (by repeat first | exact sLn _ | apply sLc | apply sLd)) ?_)
                    refine dr_one 23 (by kernel_rfl) rfl ?_
                    refine at_hand (does_hand cal34 rfl rfl rfl .z (fun w hs => by have h9 := deck_next g a len cap p12 (3) w (hs.box (i := 0) rfl) (hI.keep hs.keep) (by omega) hl (by omega); exact h9) (fun _ => .z)) rfl (fun x13 p13 hx13 => ?_)
                    obtain ⟨h13a, h13b, h13c, h13d⟩ := hx13
                    refine at_nil (dr_next (fun _ => (by repeat first | exact sLn _ | apply sLc | apply sLd)) ?_)
                    refine dr_take 24 rfl (by kernel_rfl) (by repeat first | exact sLn _ | apply sLc | apply sLd) (pv_build rfl (bu_61_0_1_2_3 _ _ _ _)) rfl ?_
                    refine dr_one 26 (by kernel_rfl) rfl ?_
                    refine at_turns (by exact turns_store sz_61 rfl rfl .agg rfl rfl (.s (.s (.s (.s (.s .z))))) (.rep (.rep (.rep (.rep .done)))) (.s (.s (.s (.s (.s .z)))))) ?_
                    refine at_nil (dr_next (fun h => by cases h) ?_)
                    refine dr_done (by kernel_rfl) ?_
                    exact ex_meet (((at0 z.ns x10.toNat).1, x11, (at0 z.ns x12.toNat).1, x13), p13, _) ⟨h13c, h13d⟩ ⟨rfl, rfl, rfl, rfl, rfl, trivial⟩ (List.Sublist.refl _)
                · skip
                  refine at_does (does_alloc ze_61 .agg (fun _ => (.cons (.cons (.cons (.cons (.cons .nil))))))) rfl (fun g7 => ?_)
                  refine at_nil (dr_next (fun _ => (by repeat first | exact sLn _ | apply sLc | apply sLd)) ?_)
                  refine dr_one 18 (by kernel_rfl) rfl ?_
                  refine at_hand (does_hand cal34 rfl rfl rfl .z (fun w hs => by have h9 := deck_next g a len cap p11 (z.ns.length) w (hs.box (i := 0) rfl) (hI.keep hs.keep) (by omega) hl (by omega); exact h9) (fun _ => .z)) rfl (fun x12 p12 hx12 => ?_)
                  obtain ⟨h12a, h12b, h12c, h12d⟩ := hx12
                  refine at_nil (dr_next (fun _ => (by repeat first | exact sLn _ | apply sLc | apply sLd)) ?_)
                  refine dr_take 19 rfl (by kernel_rfl) (by repeat first | exact sLn _ | apply sLc | apply sLd) (pv_ix Try.underlying25 cz_70 rfl rfl (by first | omega | (simp only [decide_eq_true_eq, decide_eq_false_iff_not] at *; omega)) hreal (k := x12.toNat) (by omega)) rfl ?_
                  refine dr_take 20 rfl (by kernel_rfl) (by repeat first | exact sLn _ | apply sLc | apply sLd) (pv_fieldAddr fa_70_0 rfl) rfl ?_
                  refine dr_take 21 rfl (by kernel_rfl) (by repeat first | exact sLn _ | apply sLc | apply sLd) (pv_elem ld_3 rfl (RowP.get len4 (by decide) (.s (.s .z)) (hat x12 h12a h12b) .z)) rfl ?_
                  refine dr_one 23 (by kernel_rfl) rfl ?_
                  refine at_hand (does_hand cal34 rfl rfl rfl .z (fun w hs => by have h9 := deck_next g a len cap p12 (3) w (hs.box (i := 0) rfl) (hI.keep hs.keep) (by omega) hl (by omega); exact h9) (fun _ => .z)) rfl (fun x13 p13 hx13 => ?_)
                  obtain ⟨h13a, h13b, h13c, h13d⟩ := hx13
                  refine at_nil (dr_next (fun _ => (by repeat first | exact sLn _ | apply sLc | apply sLd)) ?_)
                  refine dr_take 24 rfl (by kernel_rfl) (by repeat first | exact sLn _ | apply sLc | apply sLd) (pv_build rfl (bu_61_0_1_2_3 _ _ _ _)) rfl ?_
                  refine dr_one 26 (by kernel_rfl) rfl ?_
                  refine at_turns (by exact turns_store sz_61 rfl rfl .agg rfl rfl (.s (.s (.s (.s (.s .z))))) (.rep (.rep (.rep (.rep .done)))) (.s (.s (.s (.s (.s .z)))))) ?_
                  refine at_nil (dr_next (fun h => by cases h) ?_)
                  refine dr_done (by kernel_rfl) ?_
                  exact ex_meet (((at0 z.ns x10.toNat).1, x11, (at0 z.ns x12.toNat).1, x13), p13, _) ⟨h13c, h13d⟩ ⟨rfl, rfl, rfl, rfl, rfl, trivial⟩ (List.Sublist.refl _)
              · skip
                refine at_does (does_alloc ze_61 .agg (fun _ => (.cons (.cons (.cons (.cons (.cons .nil))))))) rfl (fun g8 => ?_)
                refine at_nil (dr_next (fun _ => (by repeat first | exact sLn _ | apply sLc | apply sLd)) ?_)
                refine dr_one 11 (by kernel_rfl) rfl ?_
                refine at_hand (does_hand cal34 rfl rfl rfl .z (fun w hs => by have h9 := deck_next g a len cap p10 (3) w (hs.box (i := 0) rfl) (hI.keep hs.keep) (by omega) hl (by omega); exact h9) (fun _ => .z)) rfl (fun x11 p11 hx11 => ?_)
                obtain ⟨h11a, h11b, h11c, h11d⟩ := hx11
                refine at_nil (dr_next (fun _ => (by repeat first | exact sLn _ | apply sLc | apply sLd)) ?_)
                refine dr_one 18 (by kernel_rfl) rfl ?_
                refine at_hand (does_hand cal34 rfl rfl rfl .z (fun w hs => by have h9 := deck_next g a len cap p11 (z.ns.length) w (hs.box (i := 0) rfl) (hI.keep hs.keep) (by omega) hl (by omega); exact h9) (fun _ => .z)) rfl (fun x12 p12 hx12 => ?_)
                obtain ⟨h12a, h12b, h12c, h12d⟩ := hx12
                refine at_nil (dr_next (fun _ => (by repeat first | exact sLn _ | apply sLc | apply sLd)) ?_)
                refine dr_take 19 rfl (by kernel_rfl) (by repeat first | exact sLn _ | apply sLc | apply sLd) (pv_ix Try.underlying25 cz_70 rfl rfl (by first | omega | (simp only [decide_eq_true_eq, decide_eq_false_iff_not] at *; omega)) hreal (k := x12.toNat) (by omega)) rfl ?_
                refine dr_take 20 rfl (by kernel_rfl) (by repeat first | exact sLn _ | apply sLc | apply sLd) (pv_fieldAddr fa_70_0 rfl) rfl ?_
                refine dr_take 21 rfl (by kernel_rfl) (by repeat first | exact sLn _ | apply sLc | apply sLd) (pv_elem ld_3 rfl (RowP.get len4 (by decide) (.s (.s .z)) (hat x12 h12a h12b) .z)) rfl ?_
                refine dr_one 23 (by kernel_rfl) rfl ?_
                refine at_hand (does_hand cal34 rfl rfl rfl .z (fun w hs => by have h9 := deck_next g a len cap p12 (3) w (hs.box (i := 0) rfl) (hI.keep hs.keep) (by omega) hl (by omega); exact h9) (fun _ => .z)) rfl (fun x13 p13 hx13 => ?_)
                obtain ⟨h13a, h13b, h13c, h13d⟩ := hx13
                refine at_nil (dr_next (fun _ => (by repeat first | exact sLn _ | apply sLc | apply sLd)) ?_)
                refine dr_take 24 rfl (by kernel_rfl) (by repeat first | exact sLn _ | apply sLc | apply sLd) (pv_build rfl (bu_61_0_1_2_3 _ _ _ _)) rfl ?_
                refine dr_one 26 (by kernel_rfl) rfl ?_
                refine at_turns (by exact turns_store sz_61 rfl rfl .agg rfl rfl (.s (.s (.s (.s (.s .z))))) (.rep (.rep (.rep (.rep .done)))) (.s (.s (.s (.s (.s .z)))))) ?_
                refine at_nil (dr_next (fun h => by cases h) ?_)
                refine dr_done (by kernel_rfl) ?_
                exact ex_meet (((at0 z.ns x10.toNat).1, x11, (at0 z.ns x12.toNat).1, x13), p13, _) ⟨h13c, h13d⟩ ⟨rfl, rfl, rfl, rfl, rfl, trivial⟩ (List.Sublist.refl _)
            · skip
              refine at_does (does_alloc ze_61 .agg (fun _ => (.cons (.cons (.cons (.cons (.cons .nil))))))) rfl (fun g9 => ?_)
              refine at_nil (dr_next (fun _ => (by repeat first | exact sLn _ | apply sLc | apply sLd)) ?_)
              refine dr_one 6 (by kernel_rfl) rfl ?_
              refine at_hand (does_hand cal34 rfl rfl rfl .z (fun w hs => by have h9 := deck_next g a len cap p (z.ns.length) w (hs.box (i := 0) rfl) (hI.keep hs.keep) (by omega) hl (by omega); exact h9) (fun _ => .z)) rfl (fun x10 p10 hx10 => ?_)
              obtain ⟨h10a, h10b, h10c, h10d⟩ := hx10
              refine at_nil (dr_next (fun _ => (by repeat first | exact sLn _ | apply sLc | apply sLd)) ?_)
              refine dr_take 7 rfl (by kernel_rfl) (by repeat first | exact sLn _ | apply sLc | apply sLd) (pv_ix Try.underlying25 cz_70 rfl rfl (by first | omega | (simp only [decide_eq_true_eq, decide_eq_false_iff_not] at *; omega)) hreal (k := x10.toNat) (by omega)) rfl ?_
              refine dr_take 8 rfl (by kernel_rfl) (by repeat first | exact sLn _ | apply sLc | apply sLd) (pv_fieldAddr fa_70_0 rfl) rfl ?_
              refine dr_take 9 rfl (by kernel_rfl) (by repeat first | exact sLn _ | apply sLc | apply sLd) (pv_elem ld_3 rfl (RowP.get len4 (by decide) (.s (.s .z)) (hat x10 h10a h10b) .z)) rfl ?_
              refine dr_one 11 (by kernel_rfl) rfl ?_
              refine at_hand (does_hand cal34 rfl rfl rfl .z (fun w hs => by have h9 := deck_next g a len cap p10 (3) w (hs.box (i := 0) rfl) (hI.keep hs.keep) (by omega) hl (by omega); exact h9) (fun _ => .z)) rfl (fun x11 p11 hx11 => ?_)
              obtain ⟨h11a, h11b, h11c, h11d⟩ := hx11
              refine at_nil (dr_next (fun _ => (by repeat first | exact sLn _ | apply sLc | apply sLd)) ?_)
              refine dr_one 18 (by kernel_rfl) rfl ?_
              refine at_hand (does_hand cal34 rfl rfl rfl .z (fun w hs => by have h9 := deck_next g a len cap p11 (z.ns.length) w (hs.box (i := 0) rfl) (hI.keep hs.keep) (by omega) hl (by omega); exact h9) (fun _ => .z)) rfl (fun x12 p12 hx12 => ?_)
              obtain ⟨h12a, h12b, h12c, h12d⟩ := hx12
              refine at_nil (dr_next (fun _ => (by repeat first | exact sLn _ | apply sLc | apply sLd)) ?_)
              refine dr_take 19 rfl (by kernel_rfl) (by repeat first | exact sLn _ | apply sLc | apply sLd) (pv_ix Try.underlying25 cz_70 rfl rfl (by first | omega | (simp only [decide_eq_true_eq, decide_eq_false_iff_not] at *; omega)) hreal (k := x12.toNat) (by omega)) rfl ?_
              refine dr_take 20 rfl (by kernel_rfl) (by repeat first | exact sLn _ | apply sLc | apply sLd) (pv_fieldAddr fa_70_0 rfl) rfl ?_
              refine dr_take 21 rfl (by kernel_rfl) (by repeat first | exact sLn _ | apply sLc | apply sLd) (pv_elem ld_3 rfl (RowP.get len4 (by decide) (.s (.s .z)) (hat x12 h12a h12b) .z)) rfl ?_
              refine dr_one 23 (by kernel_rfl) rfl ?_
              refine at_hand (does_hand cal34 rfl rfl rfl .z (fun w hs => by have h9 := deck_next g a len cap p12 (3) w (hs.box (i := 0) rfl) (hI.keep hs.keep) (by omega) hl (by omega); exact h9) (fun _ => .z)) rfl (fun x13 p13 hx13 => ?_)
              obtain ⟨h13a, h13b, h13c, h13d⟩ := hx13
              refine at_nil (dr_next (fun _ => (by repeat first | exact sLn _ | apply sLc | apply sLd)) ?_)
              refine dr_take 24 rfl (by kernel_rfl) (by repeat first | exact sLn _ | apply sLc | apply sLd) (pv_build rfl (bu_61_0_1_2_3 _ _ _ _)) rfl ?_
              refine dr_one 26 (by kernel_rfl) rfl ?_
              refine at_turns (by exact turns_store sz_61 rfl rfl .agg rfl rfl (.s (.s (.s (.s (.s .z))))) (.rep (.rep (.rep (.rep .done)))) (.s (.s (.s (.s (.s .z)))))) ?_
              refine at_nil (dr_next (fun h => by cases h) ?_)
              refine dr_done (by kernel_rfl) ?_
              exact ex_meet (((at0 z.ns x10.toNat).1, x11, (at0 z.ns x12.toNat).1, x13), p13, _) ⟨h13c, h13d⟩ ⟨rfl, rfl, rfl, rfl, rfl, trivial⟩ (List.Sublist.refl _)
          · rintro ⟨q, p9, gl⟩ ⟨h9p, h9q⟩; dsimp only at h9p h9q
            refine cd_seq ?_
            refine cd_region ?_
            refine at_pure (by exact pv_loads_box ag_28 rfl (.s (.s .z)) (.take (.take .done))) rfl ?_
            refine at_pure (by exact pv_loads_box ag_61 rfl (.s (.s (.s (.s (.s .z))))) (.take (.take (.take (.take .done))))) rfl ?_
            refine at_does (does_gives (X := (Option Addr × Nat) × (Option Addr × Nat)) (val := fun u => .tuple #[.agg #[.slice u.1.1 (conN z.ns z.ls q).length u.1.2, .slice u.2.1 (conL z.ns z.ls q).length u.2.2], .int .i64 (conErr z.ns z.ls q)]) (Δ := fun u => [RowP enc4 4 70 u.1.1 u.1.2 (conN z.ns z.ls q), RowP enc4 4 61 u.2.1 u.2.2 (conL z.ns z.ls q)]) cal36 rfl rfl rfl (fun w hs => by have h9 := connect_ref z.an z.al z.cn z.cl z.ns z.ls q w (hs.rows len4 (by decide) (.s (.s (.s .z)))) (hs.rows len4 (by decide) (.s (.s (.s (.s .z))))); exact h9) (fun _ => (.cons (.cons (.cons (.cons (.cons (.cons .nil)))))))) rfl (fun y => ?_)
            refine at_pure (pv_move rfl) rfl ?_
            refine at_pure (pv_extract rfl rfl) rfl ?_
            refine at_pure (pv_extract rfl rfl) rfl ?_
            refine at_does (does_alloc ze_28 .agg (fun _ => (.cons (.cons (.cons (.cons (.cons (.cons (.cons (.cons .nil)))))))))) rfl (fun g10 => ?_)
            refine at_turns (by exact turns_store sz_28 rfl rfl .agg rfl rfl (.s (.s (.s (.s (.s (.s (.s (.s .z)))))))) (.rep (.rep .done)) (.s (.s (.s (.s (.s (.s (.s (.s .z))))))))) ?_
            refine at_pure (pv_assign rfl) rfl ?_
            refine at_nil ?_
            refine ex_go ?_
            refine cd_seq ?_
            refine cd_region ?_
            refine at_pure (pv_move rfl) rfl ?_
            refine at_pure (pv_eql rfl rfl) rfl ?_
            refine at_nil ?_
            refine ex_go ?_
            refine cd_if rfl (fun herr2 => ?_) (fun herr2 => ?_)
            · skip
              refine cd_region ?_
              refine at_pure (by exact pv_loads_box ag_28 rfl (.s (.s (.s (.s (.s (.s (.s (.s .z)))))))) (.take (.take .done))) rfl ?_
              refine at_turns (by exact turns_store sz_28 rfl rfl .agg rfl rfl (.s (.s .z)) (.rep (.rep .done)) (.s (.s .z))) ?_
              refine at_nil ?_
              refine ex_in_normal (ex_go ?_)
              refine cd_region ?_
              refine at_pure (pv_move rfl) rfl ?_
              refine at_pure (by first | exact pv_sub_n rfl rfl (by unfold In64; omega) | exact pv_sub rfl rfl) rfl ?_
              refine at_pure (pv_assign rfl) rfl ?_
              refine at_nil ?_
              first | exact ex_meet (p9, i - 1, ⟨conN z.ns z.ls q, conL z.ns z.ls q, [], y.1.1, y.2.1, none, y.1.2, y.2.2, 0⟩) ⟨(by have hk := con_ok (beq_iff_eq.1 herr2); exact ⟨⟨h9p, h9q⟩, hk.1, by dsimp only; rw [hk.2.1]; omega, by dsimp only; omega, by dsimp only; rw [hk.2.2]; omega⟩), by dsimp only; omega⟩ ⟨rfl, rfl, rfl, rfl, trivial⟩ (by repeat first | exact sLn _ | apply sLc | apply sLd) | exact ex_meet (p9, i - 1, z) ⟨⟨⟨h9p, h9q⟩, hv, hn8, by dsimp only; omega, by dsimp only; omega⟩, by dsimp only; omega⟩ ⟨rfl, rfl, rfl, rfl, trivial⟩ (by repeat first | exact sLn _ | apply sLc | apply sLd)
            · skip
              refine cd_skip ?_
              refine ex_in_normal (ex_go ?_)
              refine cd_region ?_
              refine at_pure (pv_move rfl) rfl ?_
              refine at_pure (by first | exact pv_sub_n rfl rfl (by unfold In64; omega) | exact pv_sub rfl rfl) rfl ?_
              refine at_pure (pv_assign rfl) rfl ?_
              refine at_nil ?_
              first | exact ex_meet (p9, i - 1, ⟨conN z.ns z.ls q, conL z.ns z.ls q, [], y.1.1, y.2.1, none, y.1.2, y.2.2, 0⟩) ⟨(by have hk := con_ok (beq_iff_eq.1 herr2); exact ⟨⟨h9p, h9q⟩, hk.1, by dsimp only; rw [hk.2.1]; omega, by dsimp only; omega, by dsimp only; rw [hk.2.2]; omega⟩), by dsimp only; omega⟩ ⟨rfl, rfl, rfl, rfl, trivial⟩ (by repeat first | exact sLn _ | apply sLc | apply sLd) | exact ex_meet (p9, i - 1, z) ⟨⟨⟨h9p, h9q⟩, hv, hn8, by dsimp only; omega, by dsimp only; omega⟩, by dsimp only; omega⟩ ⟨rfl, rfl, rfl, rfl, trivial⟩ (by repeat first | exact sLn _ | apply sLc | apply sLd)
        · skip
          refine cd_exit ?_
          refine ex_then_exit (ex_then_exit (ex_in ?_))
          exact ex_meet (p, z) ⟨hp, hv, hn8, by dsimp only; omega⟩ ⟨rfl, rfl, rfl, trivial⟩ (List.Sublist.refl _)
      · skip
        refine at_skip rfl rfl hb7 rfl ?_
        refine at_skip rfl rfl hb7 rfl ?_
        refine at_skip rfl rfl hb7 rfl ?_
        refine at_skip rfl rfl hb7 rfl ?_
        refine at_pure (pv_pick_f rfl hb7 rfl) rfl ?_
        refine at_nil ?_
        refine ex_go ?_
        refine cd_else rfl rfl ?_
        refine cd_exit ?_
        refine ex_then_exit (ex_then_exit (ex_in ?_))
        exact ex_meet (p, z) ⟨hp, hv, hn8, by dsimp only; omega⟩ ⟨rfl, rfl, rfl, trivial⟩ (List.Sublist.refl _)
    · rintro ⟨p14, z1⟩ ⟨hp14, hv1, hn1, hl1⟩; dsimp only at hp14 hv1 hn1 hl1
      refine cd_seq ?_
      refine Cd.addNil 3 enc1 1 (.cons (.cons (.cons (.cons (.cons .nil))))) ?_
      refine cd_region ?_
      refine at_pure (pv_assign rfl) rfl ?_
      refine at_nil ?_
      refine ex_go ?_
      refine cd_seq ?_
      refine cd_seq ?_
      refine cd_region ?_
      refine at_pure (pv_field0 fa_28_0 rfl (r := 0) rfl) rfl ?_
      refine at_pure (by exact pv_load ld_25 rfl (box_cell (.s (.s .z)) .z)) rfl ?_
      refine at_pure (pv_len Try.underlying25 rfl) rfl ?_
      refine at_pure (pv_move rfl) rfl ?_
      refine at_nil ?_
      refine ex_go ?_
      refine cd_block ?_
      refine cd_loop (σ := Int × Nat × List Int × Option Addr × Nat) (fun s => [(0, Value.pointer (some ⟨g, 0, none⟩)), (2, Value.pointer (some ⟨g1, 0, none⟩)), (4, Value.pointer (some ⟨g2, 0, none⟩)), (14, .slice s.2.2.2.1 s.2.2.1.length s.2.2.2.2), (110, .int .i64 z1.ns.length), (111, .int .i64 (s.2.1 : Int))]) (fun s => [Box g [.slice a len cap, .int .i64 s.1] 76, Box g1 [.slice none 0 0, .slice none 0 0] 28, Box g2 [.slice z1.an z1.ns.length z1.cn, .slice z1.al z1.ls.length z1.cl] 28, RowP enc4 4 70 z1.an z1.cn z1.ns, RowP enc4 4 61 z1.al z1.cl z1.ls, RowP enc1 1 3 s.2.2.2.1 s.2.2.2.2 s.2.2.1]) (fun s => (0 ≤ s.1 ∧ s.1 ≤ len) ∧ s.2.1 ≤ z1.ns.length ∧ s.2.2.1.length = s.2.1 ∧ ∀ c ∈ s.2.2.1, 0 ≤ c ∧ c < 12) (fun s => z1.ns.length - s.2.1) (p14, 0, [], none, 0) (by refine ⟨hp14, by simp, rfl, by simp⟩) ⟨rfl, rfl, rfl, rfl, rfl, rfl, trivial⟩ (by repeat first | exact sLn _ | apply sLc | apply sLd) ?_
      rintro ⟨p, k, cs, ca, cc⟩ ⟨hp, hk, hcl, hcc⟩
      dsimp only at hp hk hcl hcc ⊢
      refine cd_seq ?_
      refine cd_region ?_
      refine at_pure (pv_lss rfl rfl) rfl ?_
      refine at_nil ?_
      refine ex_go ?_
      refine cd_seq ?_
      refine cd_if rfl (fun hlt5 => ?_) (fun hlt5 => ?_)
      · have hkl : k < z1.ns.length := by simpa using hlt5
        refine cd_skip ?_
        refine ex_go ?_
        refine cd_seq ?_
        refine cd_block ?_
        refine cd_region ?_
        refine at_pure (pv_move rfl) rfl ?_
        refine at_pure (pv_move rfl) rfl ?_
        refine at_hand (does_hand cal34 rfl rfl rfl .z (fun w hs => by have h9 := deck_next g a len cap p (12) w (hs.box (i := 0) rfl) (hI.keep hs.keep) (by omega) hl (by omega); exact h9) (fun _ => .z)) rfl (fun x15 p15 hx15 => ?_)
        obtain ⟨h15a, h15b, h15c, h15d⟩ := hx15
        refine at_does (does_list (by rfl) (by exact (bs_22_1_0 _)) (by exact (fun _ => (.cons (.cons (.cons (.cons (.cons (.cons .nil))))))))) rfl (fun g11 => ?_)
        refine at_hands (does_app (ys := [x15]) ⟨len1, by decide, one1⟩ Try.underlying22 ap_3 rfl rfl rfl (.s (.s (.s (.s (.s .z))))) (fun w hs => hs.box1 (enc := enc1) (.s (.s (.s (.s (.s (.s .z))))))) (by simp only [List.length_singleton]; omega) (by simp) (fun _ _ => (.s (.s (.s (.s (.s .z))))))) rfl (fun a9 c9 hr12 hc12 => ?_)
        refine at_pure (pv_assign rfl) rfl ?_
        refine at_nil ?_
        refine ex_in_normal (ex_go ?_)
        refine cd_region ?_
        refine at_pure (by first | exact pv_add_n rfl rfl (by unfold In64; omega) | exact pv_add rfl rfl) rfl ?_
        refine at_pure (pv_move rfl) rfl ?_
        refine at_nil ?_
        exact ex_meet (p15, k + 1, cs ++ [x15], a9, c9) ⟨⟨⟨h15c, h15d⟩, by dsimp only; omega, by dsimp only; rw [List.length_append]; simp [hcl], by dsimp only; intro c hc; rcases List.mem_append.1 hc with hc | hc; exact hcc c hc; simp at hc; subst hc; exact ⟨h15a, h15b⟩⟩, by dsimp only; omega⟩ ⟨rfl, rfl, rfl, rfl, rfl, rfl, trivial⟩ (by repeat first | exact sLn _ | apply sLc | apply sLd)
      · skip
        refine cd_exit ?_
        refine ex_then_exit (ex_then_exit (ex_in (ex_go ?_)))
        refine cd_seq ?_
        refine cd_region ?_
        refine at_pure (by exact pv_loads_box ag_28 rfl (.s (.s .z)) (.take (.take .done))) rfl ?_
        refine at_pure (pv_move rfl) rfl ?_
        refine at_turns (by exact turns_store sz_28 rfl rfl .agg rfl rfl (.s .z) (.rep (.rep .done)) (.s .z)) ?_
        refine at_pure (pv_assign rfl) rfl ?_
        refine at_nil ?_
        refine ex_go ?_
        refine cd_ret ?_
        exact end_ct rfl (by exact Lies.box ag_28 rfl (.s .z) rfl) rfl (fun w hs => Made.mk ⟨z1.ns, z1.ls, cs, z1.an, z1.al, ca, z1.cn, z1.cl, cc⟩ ⟨hv1, hn1, hl1, by dsimp only; simp at hlt5; omega, hcc⟩ rfl hs (by repeat first | exact sLn _ | apply sLc | apply sLd))

end Go.Proofs.Ytkejdfnpbkdllaa
