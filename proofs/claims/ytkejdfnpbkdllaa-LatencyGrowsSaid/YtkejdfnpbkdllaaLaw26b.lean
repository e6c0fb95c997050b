/- The law LatencyGrows. -/
import Derived.Test.YtkejdfnpbkdllaaLaw26bF
import Derived.Test.YtkejdfnpbkdllaaLaw26
set_option linter.unusedVariables false
set_option linter.unusedSimpArgs false
set_option maxRecDepth 20000
namespace Go.Proofs.Ytkejdfnpbkdllaa
open Go Go.RowKit Go.Proofs.YtkejdfnpbkdllaaV
theorem of_ok {a b c d e f g : Int} (h1 : 1000 ≤ a ∧ a ≤ 768000) (h2 : 1000 ≤ b ∧ b ≤ 768000) (h3 : 1000 ≤ c ∧ c ≤ 768000) (h4 : 0 ≤ d ∧ d ≤ 1099511627776) (h5 : 16 ≤ e ∧ e ≤ 8192) (h6 : 0 ≤ f ∧ f ≤ 1099511627776) (h7 : 0 ≤ g ∧ g ≤ 1099511627776) (w : World) :
    Calls Try.prog 24 [.agg #[.int .i64 a, .int .i64 b, .int .i64 c, .int .i64 d, .int .i64 e, .int .i64 f, .int .i64 g]].toArray w (Val (.tuple #[.agg #[.int .i64 (frames d b a), .int .i64 (frames 2 b a), .int .i64 e, .int .i64 f, .int .i64 (frames g c a)], .int .i64 0]) w) := by
  have h := of_any a b c d e f g w
  have hk : ofOk a b c d e f g = true := by simp [ofOk, rateB, manyB]; omega
  rw [hk] at h
  exact h
theorem total_ok {a b c d e : Int} (h1 : 0 ≤ a ∧ a ≤ 1099511627776) (h2 : 0 ≤ b ∧ b ≤ 1099511627776) (h3 : 0 ≤ c ∧ c ≤ 1099511627776) (h4 : 0 ≤ d ∧ d ≤ 1099511627776) (h5 : 0 ≤ e ∧ e ≤ 1099511627776) (w : World) :
    Calls Try.prog 25 [.agg #[.int .i64 a, .int .i64 b, .int .i64 c, .int .i64 d, .int .i64 e]].toArray w (Val (.int .i64 (a + b + c + d + e)) w) := by
  have h := total_any a b c d e w
  have hk : totalI a b c d e = a + b + c + d + e := by
    have : (manyB a && manyB b && manyB c && manyB d && manyB e) = true := by simp [manyB]; omega
    unfold totalI
    rw [this]; rfl
  rw [hk] at h
  exact h
theorem frames_in {n f t : Int} (h1 : 0 ≤ n ∧ n ≤ 6000) (h2 : 1000 ≤ f ∧ f ≤ 200000) (h3 : 1000 ≤ t ∧ t ≤ 200000) : 0 ≤ frames n f t ∧ frames n f t ≤ 1099511627776 ∧ frames n f t = (n * t + f - 1) / f := by
  have e := frames_yes n f t (by omega) (by omega) (by omega)
  have p := prod_of n t (by omega) (by omega)
  have q : n * t ≤ 6000 * 200000 := Int.mul_le_mul h1.2 h3.2 (by omega) (by omega)
  rw [e]
  have l1 := Int.ediv_nonneg (show 0 ≤ n * t + f - 1 by omega) (show 0 ≤ f by omega)
  have l2 := Int.ediv_le_self f (show 0 ≤ n * t + f - 1 by omega)
  exact ⟨l1, by omega, rfl⟩
theorem frames_mono {n n' f t : Int} (h0 : n ≤ n') (h1 : 0 ≤ n ∧ n' ≤ 6000) (h2 : 1000 ≤ f ∧ f ≤ 200000) (h3 : 1000 ≤ t ∧ t ≤ 200000) : frames n f t ≤ frames n' f t := by
  rw [(frames_in (by omega) h2 h3).2.2, (frames_in (n := n') (by omega) h2 h3).2.2]
  refine Int.ediv_le_ediv (by omega) ?_
  have : n * t ≤ n' * t := Int.mul_le_mul_of_nonneg_right h0 (by omega)
  omega
theorem place_law_in (a b : Option Addr) (ca cb : Nat) {ns ls : List Q4} {i : Int} (w : World) (hn : Sl [] enc4 4 w a ca ns) (hl : Sl [] enc4 4 w b cb ls) (hi : i ∈ ids ns) : Calls Try.prog 26 [.agg #[.slice a ns.length ca, .slice b ls.length cb], .int .i64 i].toArray w (Val (.int .i64 (placeI ns i)) w) := by
  have h := place_law a b ca cb ns ls i w hn hl
  rw [if_neg (by have := (place_in hi).1; omega)] at h
  exact h
theorem at1_mono_set {xs : List Int} {i j : Nat} {v : Int} (h : at1 xs i ≤ v) : at1 xs j ≤ at1 (xs.set i v) j := by
  unfold at1 at h ⊢
  rw [List.getD_eq_getElem?_getD, List.getD_eq_getElem?_getD, List.getElem?_set]
  rw [List.getD_eq_getElem?_getD] at h
  split
  · rename_i e
    subst e
    split
    · exact h
    · rename_i h2
      rw [List.getElem?_eq_none (by omega)]; exact Int.le_refl _
  · exact Int.le_refl _
theorem maxI_left (p q : Int) : p ≤ maxI p q := by unfold maxI; split <;> omega
theorem maxI_right (p q : Int) : q ≤ maxI p q := by unfold maxI; split <;> omega
theorem lonL_mono (ns : List Q4) (ws : List Int) (id : Int) (xs : List Int) (l : Q4) (j : Nat) : at1 xs j ≤ at1 (lonL ns ws id xs l) j := by
  unfold lonL
  cases l.2.2.1 == id && decide (0 ≤ at1 xs (placeI ns l.1).toNat)
  · exact Int.le_refl _
  · exact at1_mono_set (maxI_left _ _)
theorem lonO_mono (ns : List Q4) (ws : List Int) (id : Int) (j : Nat) : ∀ (ls : List Q4) (xs : List Int), at1 xs j ≤ at1 (ls.foldl (lonL ns ws id) xs) j
  | [], xs => Int.le_refl _
  | l :: ls, xs => by
    rw [List.foldl_cons]
    exact Int.le_trans (lonL_mono ns ws id xs l j) (lonO_mono ns ws id j ls _)
theorem lonR_mono (ns ls : List Q4) (ws : List Int) (j : Nat) : ∀ (os : List Int) (xs : List Int), at1 xs j ≤ at1 (os.foldl (lonO ns ls ws) xs) j
  | [], xs => Int.le_refl _
  | o :: os, xs => by
    rw [List.foldl_cons]
    exact Int.le_trans (lonO_mono ns ws o j ls xs) (lonR_mono ns ls ws j os _)
theorem lonL_len (ns : List Q4) (ws : List Int) (id : Int) (xs : List Int) (l : Q4) : (lonL ns ws id xs l).length = xs.length := by
  unfold lonL
  cases l.2.2.1 == id && decide (0 ≤ at1 xs (placeI ns l.1).toNat) <;> simp
theorem lonO_len (ns : List Q4) (ws : List Int) (id : Int) : ∀ (ls : List Q4) (xs : List Int), (ls.foldl (lonL ns ws id) xs).length = xs.length
  | [], xs => rfl
  | l :: ls, xs => by rw [List.foldl_cons, lonO_len ns ws id ls, lonL_len]
theorem lonR_len (ns ls : List Q4) (ws : List Int) : ∀ (os : List Int) (xs : List Int), (os.foldl (lonO ns ls ws) xs).length = xs.length
  | [], xs => rfl
  | o :: os, xs => by rw [List.foldl_cons, lonR_len ns ls ws os]; exact lonO_len ns ws o ls xs
/-- A link is passed: behind it stands what lies before it, and more. -/
theorem lonO_link {ns : List Q4} {ws : List Int} {y : Q4} (hl : (placeI ns y.2.2.1).toNat < ns.length) (c : Int) : ∀ (ls : List Q4) (xs : List Int), xs.length = ns.length → y ∈ ls → 0 ≤ c → c ≤ at1 xs (placeI ns y.1).toNat →
    c + at1 ws (placeI ns y.2.2.1).toNat ≤ at1 (ls.foldl (lonL ns ws y.2.2.1) xs) (placeI ns y.2.2.1).toNat
  | [], xs, _, hy, _, _ => by cases hy
  | l :: ls, xs, hx, hy, h0, hc => by
    rw [List.foldl_cons]
    rcases List.mem_cons.1 hy with rfl | hy
    · refine Int.le_trans ?_ (lonO_mono ns ws _ _ ls _)
      rw [lonL_yes (beq_self_eq_true _) (decide_eq_true (by omega)) rfl, at1_set (by omega), if_pos rfl]
      have := maxI_right (at1 xs (placeI ns y.2.2.1).toNat) (at1 xs (placeI ns y.1).toNat + at1 ws (placeI ns y.2.2.1).toNat)
      omega
    · exact lonO_link hl c ls _ (by rw [lonL_len]; exact hx) hy h0 (Int.le_trans hc (lonL_mono ns ws _ xs l _))
theorem lonR_link {ns ls : List Q4} {ws : List Int} {y : Q4} (hl : (placeI ns y.2.2.1).toNat < ns.length) (hy : y ∈ ls) (c : Int) : ∀ (os : List Int) (xs : List Int), xs.length = ns.length → y.2.2.1 ∈ os → 0 ≤ c → c ≤ at1 xs (placeI ns y.1).toNat →
    c + at1 ws (placeI ns y.2.2.1).toNat ≤ at1 (os.foldl (lonO ns ls ws) xs) (placeI ns y.2.2.1).toNat
  | [], xs, _, ho, _, _ => by cases ho
  | o :: os, xs, hx, ho, h0, hc => by
    rw [List.foldl_cons]
    rcases List.mem_cons.1 ho with rfl | ho
    · exact Int.le_trans (lonO_link hl c ls xs hx hy h0 hc) (lonR_mono ns ls ws _ os _)
    · exact lonR_link hl hy c os _ ((lonO_len ns ws o ls xs).trans hx) ho h0 (Int.le_trans hc (lonO_mono ns ws o _ ls xs))
theorem lon_link {ns ls : List Q4} {ws : List Int} {y : Q4} (hok : lonOk ns ls ws = true) (hy : y ∈ ls) :
    lonE ns ls ws y.1 y.2.2.1 = 0 ∧ at1 ws (placeI ns y.1).toNat + at1 ws (placeI ns y.2.2.1).toNat ≤ lonV ns ls ws y.1 y.2.2.1 := by
  have h1 := hok
  unfold lonOk at h1
  simp only [Bool.and_eq_true, beq_iff_eq] at h1
  have hvg := (valid_iff ns ls).1 h1.1.1
  have hcs := costs_of h1.2
  have hpe := ports_ends (hvg.port y hy)
  have hp1 := place_in hpe.1
  have hp2 := place_in hpe.2
  have hgo := good_order ls hvg.nd
  have hm : y.2.2.1 ∈ orderS ns ls := todo_zero (by have := hgo.1.cnt; have := hvg.full; omega) _ hpe.2
  have hw1 := at1_bound (k := (placeI ns y.1).toNat) hcs (by omega)
  have hw2 := at1_bound (k := (placeI ns y.2.2.1).toNat) hcs (by omega)
  have key := lonR_link (ns := ns) (ls := ls) (ws := ws) (by omega) hy (at1 ws (placeI ns y.1).toNat) (orderS ns ls) (lonI ns ws (placeI ns y.1)) (by simp [lonI]) hm hw1.1 (by
    unfold lonI
    rw [at1_set (by simp; omega), if_pos rfl]; exact Int.le_refl _)
  have h0 : 0 ≤ at1 (lonR ns ls ws (placeI ns y.1)) (placeI ns y.2.2.1).toNat := by unfold lonR; omega
  have := lon_is (f := y.1) (t := y.2.2.1) hok hp1.1 hp2.1 h0
  refine ⟨this.1, ?_⟩
  rw [this.2]
  exact key
theorem mill_lonOk {z : MZ} (hz : MillOk z) : lonOk z.ns z.ls z.cs = true := by
  refine lonOk_yes hz.valid (beq_iff_eq.2 (by rw [hz.clen])) ?_
  rw [List.all_eq_true]
  intro c hc
  have := hz.cost c hc
  unfold costB
  rw [decide_eq_true (show 0 ≤ c by omega), decide_eq_true (show c ≤ 1099511627776 by omega)]; rfl

set_option maxRecDepth 10000 in
set_option maxHeartbeats 4000000 in
theorem latencyGrows_any (x0 x1 x2 x3 x4 x5 x6 : Int) (a0 : Option Addr) (len0 cap0 : Nat) (m : Int) (w : World) (hI : Ints [] w a0 len0) (hlen : len0 ≤ 17592186044416) (hm : 0 ≤ m ∧ m ≤ 255) : Calls Try.prog 6 [.agg #[.int .i64 x0, .int .i64 x1, .int .i64 x2, .int .i64 x3, .int .i64 x4, .int .i64 x5, .int .i64 x6], .slice a0 len0 cap0, .int .u8 m].toArray w (Val (.bool true) w) := by
  refine calls_body (n := 160) Try.func6 rfl rfl rfl (St.init _ []) ?_
  refine cd_seq ?_
  refine cd_region ?_
  refine at_does (does_box rfl .agg (fun _ => .nil)) rfl (fun g1 => ?_)
  refine at_pure (pv_assign rfl) rfl ?_
  refine at_nil ?_
  refine ex_go ?_
  refine cd_seq ?_
  refine cd_seq ?_
  refine cd_region ?_
  refine at_does (does_val cal21 rfl rfl rfl (fun w hs => sane_lat w)) rfl (fun _ => ?_)
  refine at_pure (pv_not rfl) rfl ?_
  refine at_nil ?_
  refine ex_go ?_
  refine cd_else rfl rfl ?_
  refine cd_skip ?_
  refine ex_go ?_
  refine cd_cut (σ := Int × Int × Int × Int × Int × Int × Int × Nat) (fun s => [(1, .slice a0 len0 cap0), (2, .int .u8 m), (7, Value.pointer (some ⟨s.2.2.2.2.2.2.2, 0, none⟩))]) (fun s => [Box s.2.2.2.2.2.2.2 [.int .i64 (s.1), .int .i64 (s.2.1), .int .i64 (s.2.2.1), .int .i64 (s.2.2.2.1), .int .i64 (s.2.2.2.2.1), .int .i64 (s.2.2.2.2.2.1), .int .i64 (s.2.2.2.2.2.2.1)] 54]) (fun s => 8000 ≤ s.1 ∧ s.1 < 108000 ∧ 1000 ≤ s.2.1 ∧ s.2.1 < 101000 ∧ 1000 ≤ s.2.2.1 ∧ s.2.2.1 < 101000 ∧ 0 ≤ s.2.2.2.1 ∧ s.2.2.2.1 < 5000 ∧ 16 ≤ s.2.2.2.2.1 ∧ s.2.2.2.2.1 < 516 ∧ 0 ≤ s.2.2.2.2.2.1 ∧ s.2.2.2.2.2.1 < 5000 ∧ 0 ≤ s.2.2.2.2.2.2.1 ∧ s.2.2.2.2.2.2.1 < 5000) ?_ ?_
  · skip
    refine cd_draw' 27 follows ?_
    refine dr_take 0 rfl (by kernel_rfl) (by first | exact List.Sublist.refl _ | (repeat first | exact List.Sublist.slnil | exact List.nil_sublist _ | apply List.Sublist.cons_cons | apply List.Sublist.cons)) (pv_field0 fa_54_0 rfl (r := 0) rfl) rfl ?_
    refine dr_take 1 rfl (by kernel_rfl) (by first | exact List.Sublist.refl _ | (repeat first | exact List.Sublist.slnil | exact List.nil_sublist _ | apply List.Sublist.cons_cons | apply List.Sublist.cons)) (by exact pv_load ld_3 rfl (box_cell .z .z)) rfl ?_
    refine dr_take 4 rfl (by kernel_rfl) (by first | exact List.Sublist.refl _ | (repeat first | exact List.Sublist.slnil | exact List.nil_sublist _ | apply List.Sublist.cons_cons | apply List.Sublist.cons)) (pv_field0 fa_54_1 rfl (r := 1) rfl) rfl ?_
    refine dr_take 5 rfl (by kernel_rfl) (by first | exact List.Sublist.refl _ | (repeat first | exact List.Sublist.slnil | exact List.nil_sublist _ | apply List.Sublist.cons_cons | apply List.Sublist.cons)) (by exact pv_load ld_3 rfl (box_cell .z (.s .z))) rfl ?_
    refine dr_take 8 rfl (by kernel_rfl) (by first | exact List.Sublist.refl _ | (repeat first | exact List.Sublist.slnil | exact List.nil_sublist _ | apply List.Sublist.cons_cons | apply List.Sublist.cons)) (pv_field0 fa_54_2 rfl (r := 2) rfl) rfl ?_
    refine dr_take 9 rfl (by kernel_rfl) (by first | exact List.Sublist.refl _ | (repeat first | exact List.Sublist.slnil | exact List.nil_sublist _ | apply List.Sublist.cons_cons | apply List.Sublist.cons)) (by exact pv_load ld_3 rfl (box_cell .z (.s (.s .z)))) rfl ?_
    refine dr_take 12 rfl (by kernel_rfl) (by first | exact List.Sublist.refl _ | (repeat first | exact List.Sublist.slnil | exact List.nil_sublist _ | apply List.Sublist.cons_cons | apply List.Sublist.cons)) (pv_field0 fa_54_3 rfl (r := 3) rfl) rfl ?_
    refine dr_take 13 rfl (by kernel_rfl) (by first | exact List.Sublist.refl _ | (repeat first | exact List.Sublist.slnil | exact List.nil_sublist _ | apply List.Sublist.cons_cons | apply List.Sublist.cons)) (by exact pv_load ld_3 rfl (box_cell .z (.s (.s (.s .z))))) rfl ?_
    refine dr_take 15 rfl (by kernel_rfl) (by first | exact List.Sublist.refl _ | (repeat first | exact List.Sublist.slnil | exact List.nil_sublist _ | apply List.Sublist.cons_cons | apply List.Sublist.cons)) (pv_field0 fa_54_4 rfl (r := 4) rfl) rfl ?_
    refine dr_take 16 rfl (by kernel_rfl) (by first | exact List.Sublist.refl _ | (repeat first | exact List.Sublist.slnil | exact List.nil_sublist _ | apply List.Sublist.cons_cons | apply List.Sublist.cons)) (by exact pv_load ld_3 rfl (box_cell .z (.s (.s (.s (.s .z)))))) rfl ?_
    refine dr_take 19 rfl (by kernel_rfl) (by first | exact List.Sublist.refl _ | (repeat first | exact List.Sublist.slnil | exact List.nil_sublist _ | apply List.Sublist.cons_cons | apply List.Sublist.cons)) (pv_field0 fa_54_5 rfl (r := 5) rfl) rfl ?_
    refine dr_take 20 rfl (by kernel_rfl) (by first | exact List.Sublist.refl _ | (repeat first | exact List.Sublist.slnil | exact List.nil_sublist _ | apply List.Sublist.cons_cons | apply List.Sublist.cons)) (by exact pv_load ld_3 rfl (box_cell .z (.s (.s (.s (.s (.s .z))))))) rfl ?_
    refine dr_take 22 rfl (by kernel_rfl) (by first | exact List.Sublist.refl _ | (repeat first | exact List.Sublist.slnil | exact List.nil_sublist _ | apply List.Sublist.cons_cons | apply List.Sublist.cons)) (pv_field0 fa_54_6 rfl (r := 6) rfl) rfl ?_
    refine dr_take 23 rfl (by kernel_rfl) (by first | exact List.Sublist.refl _ | (repeat first | exact List.Sublist.slnil | exact List.nil_sublist _ | apply List.Sublist.cons_cons | apply List.Sublist.cons)) (by exact pv_load ld_3 rfl (box_cell .z (.s (.s (.s (.s (.s (.s .z)))))))) rfl ?_
    refine dr_two 2 26 (by kernel_rfl) rfl rfl ?_ ?_
    · skip
      refine at_does (does_val cal13 rfl rfl rfl (fun w hs => mod_any _ _ w (by decide))) rfl (fun _ => ?_)
      refine at_nil (dr_next (fun _ => (by first | exact List.Sublist.refl _ | (repeat first | exact List.Sublist.slnil | exact List.nil_sublist _ | apply List.Sublist.cons_cons | apply List.Sublist.cons))) ?_)
      refine dr_take 3 rfl (by kernel_rfl) (by first | exact List.Sublist.refl _ | (repeat first | exact List.Sublist.slnil | exact List.nil_sublist _ | apply List.Sublist.cons_cons | apply List.Sublist.cons)) (by first | exact pv_add_n rfl rfl (by unfold In64; omega) | exact pv_add rfl rfl) rfl ?_
      refine dr_two 6 26 (by kernel_rfl) rfl rfl ?_ ?_
      · skip
        refine at_does (does_val cal13 rfl rfl rfl (fun w hs => mod_any _ _ w (by decide))) rfl (fun _ => ?_)
        refine at_nil (dr_next (fun _ => (by first | exact List.Sublist.refl _ | (repeat first | exact List.Sublist.slnil | exact List.nil_sublist _ | apply List.Sublist.cons_cons | apply List.Sublist.cons))) ?_)
        refine dr_take 7 rfl (by kernel_rfl) (by first | exact List.Sublist.refl _ | (repeat first | exact List.Sublist.slnil | exact List.nil_sublist _ | apply List.Sublist.cons_cons | apply List.Sublist.cons)) (by first | exact pv_add_n rfl rfl (by unfold In64; omega) | exact pv_add rfl rfl) rfl ?_
        refine dr_two 10 26 (by kernel_rfl) rfl rfl ?_ ?_
        · skip
          refine at_does (does_val cal13 rfl rfl rfl (fun w hs => mod_any _ _ w (by decide))) rfl (fun _ => ?_)
          refine at_nil (dr_next (fun _ => (by first | exact List.Sublist.refl _ | (repeat first | exact List.Sublist.slnil | exact List.nil_sublist _ | apply List.Sublist.cons_cons | apply List.Sublist.cons))) ?_)
          refine dr_take 11 rfl (by kernel_rfl) (by first | exact List.Sublist.refl _ | (repeat first | exact List.Sublist.slnil | exact List.nil_sublist _ | apply List.Sublist.cons_cons | apply List.Sublist.cons)) (by first | exact pv_add_n rfl rfl (by unfold In64; omega) | exact pv_add rfl rfl) rfl ?_
          refine dr_two 14 26 (by kernel_rfl) rfl rfl ?_ ?_
          · skip
            refine at_does (does_val cal13 rfl rfl rfl (fun w hs => mod_any _ _ w (by decide))) rfl (fun _ => ?_)
            refine at_nil (dr_next (fun _ => (by first | exact List.Sublist.refl _ | (repeat first | exact List.Sublist.slnil | exact List.nil_sublist _ | apply List.Sublist.cons_cons | apply List.Sublist.cons))) ?_)
            refine dr_two 17 26 (by kernel_rfl) rfl rfl ?_ ?_
            · skip
              refine at_does (does_val cal13 rfl rfl rfl (fun w hs => mod_any _ _ w (by decide))) rfl (fun _ => ?_)
              refine at_nil (dr_next (fun _ => (by first | exact List.Sublist.refl _ | (repeat first | exact List.Sublist.slnil | exact List.nil_sublist _ | apply List.Sublist.cons_cons | apply List.Sublist.cons))) ?_)
              refine dr_take 18 rfl (by kernel_rfl) (by first | exact List.Sublist.refl _ | (repeat first | exact List.Sublist.slnil | exact List.nil_sublist _ | apply List.Sublist.cons_cons | apply List.Sublist.cons)) (by first | exact pv_add_n rfl rfl (by unfold In64; omega) | exact pv_add rfl rfl) rfl ?_
              refine dr_two 21 26 (by kernel_rfl) rfl rfl ?_ ?_
              · skip
                refine at_does (does_val cal13 rfl rfl rfl (fun w hs => mod_any _ _ w (by decide))) rfl (fun _ => ?_)
                refine at_nil (dr_next (fun _ => (by first | exact List.Sublist.refl _ | (repeat first | exact List.Sublist.slnil | exact List.nil_sublist _ | apply List.Sublist.cons_cons | apply List.Sublist.cons))) ?_)
                refine dr_two 24 26 (by kernel_rfl) rfl rfl ?_ ?_
                · skip
                  refine at_does (does_val cal13 rfl rfl rfl (fun w hs => mod_any _ _ w (by decide))) rfl (fun _ => ?_)
                  refine at_nil (dr_next (fun _ => (by first | exact List.Sublist.refl _ | (repeat first | exact List.Sublist.slnil | exact List.nil_sublist _ | apply List.Sublist.cons_cons | apply List.Sublist.cons))) ?_)
                  refine dr_take 25 rfl (by kernel_rfl) (by first | exact List.Sublist.refl _ | (repeat first | exact List.Sublist.slnil | exact List.nil_sublist _ | apply List.Sublist.cons_cons | apply List.Sublist.cons)) (pv_build rfl (bu_54_0_1_2_3_4_5_6 _ _ _ _ _ _ _)) rfl ?_
                  refine dr_one 26 (by kernel_rfl) rfl ?_
                  refine at_does (does_alloc ze_54 .agg (fun _ => (.cons .nil))) rfl (fun g2 => ?_)
                  refine at_nil (dr_next (fun _ => (by first | exact List.Sublist.refl _ | (repeat first | exact List.Sublist.slnil | exact List.nil_sublist _ | apply List.Sublist.cons_cons | apply List.Sublist.cons))) ?_)
                  refine dr_one 27 (by kernel_rfl) rfl ?_
                  refine at_turns (by exact turns_store sz_54 rfl rfl .agg rfl rfl (.s .z) (.rep (.rep (.rep (.rep (.rep (.rep (.rep .done))))))) (.s .z)) ?_
                  refine at_nil (dr_next (fun h => by cases h) ?_)
                  refine dr_done (by kernel_rfl) ?_
                  exact ex_meet (8000 + x0 % 100000, 1000 + x1 % 100000, 1000 + x2 % 100000, x3 % 5000, 16 + x4 % 500, x5 % 5000, x6 % 5000, _) (by dsimp only; omega) ⟨rfl, rfl, rfl, trivial⟩ (by repeat first | exact List.nil_sublist _ | apply List.Sublist.cons_cons | apply List.Sublist.cons)
                · skip
                  refine at_does (does_alloc ze_54 .agg (fun _ => (.cons .nil))) rfl (fun g3 => ?_)
                  refine at_nil (dr_next (fun _ => (by first | exact List.Sublist.refl _ | (repeat first | exact List.Sublist.slnil | exact List.nil_sublist _ | apply List.Sublist.cons_cons | apply List.Sublist.cons))) ?_)
                  refine dr_one 24 (by kernel_rfl) rfl ?_
                  refine at_does (does_val cal13 rfl rfl rfl (fun w hs => mod_any _ _ w (by decide))) rfl (fun _ => ?_)
                  refine at_nil (dr_next (fun _ => (by first | exact List.Sublist.refl _ | (repeat first | exact List.Sublist.slnil | exact List.nil_sublist _ | apply List.Sublist.cons_cons | apply List.Sublist.cons))) ?_)
                  refine dr_take 25 rfl (by kernel_rfl) (by first | exact List.Sublist.refl _ | (repeat first | exact List.Sublist.slnil | exact List.nil_sublist _ | apply List.Sublist.cons_cons | apply List.Sublist.cons)) (pv_build rfl (bu_54_0_1_2_3_4_5_6 _ _ _ _ _ _ _)) rfl ?_
                  refine dr_one 27 (by kernel_rfl) rfl ?_
                  refine at_turns (by exact turns_store sz_54 rfl rfl .agg rfl rfl (.s .z) (.rep (.rep (.rep (.rep (.rep (.rep (.rep .done))))))) (.s .z)) ?_
                  refine at_nil (dr_next (fun h => by cases h) ?_)
                  refine dr_done (by kernel_rfl) ?_
                  exact ex_meet (8000 + x0 % 100000, 1000 + x1 % 100000, 1000 + x2 % 100000, x3 % 5000, 16 + x4 % 500, x5 % 5000, x6 % 5000, _) (by dsimp only; omega) ⟨rfl, rfl, rfl, trivial⟩ (by repeat first | exact List.nil_sublist _ | apply List.Sublist.cons_cons | apply List.Sublist.cons)
              · skip
                refine at_does (does_alloc ze_54 .agg (fun _ => (.cons .nil))) rfl (fun g4 => ?_)
                refine at_nil (dr_next (fun _ => (by first | exact List.Sublist.refl _ | (repeat first | exact List.Sublist.slnil | exact List.nil_sublist _ | apply List.Sublist.cons_cons | apply List.Sublist.cons))) ?_)
                refine dr_one 21 (by kernel_rfl) rfl ?_
                refine at_does (does_val cal13 rfl rfl rfl (fun w hs => mod_any _ _ w (by decide))) rfl (fun _ => ?_)
                refine at_nil (dr_next (fun _ => (by first | exact List.Sublist.refl _ | (repeat first | exact List.Sublist.slnil | exact List.nil_sublist _ | apply List.Sublist.cons_cons | apply List.Sublist.cons))) ?_)
                refine dr_one 24 (by kernel_rfl) rfl ?_
                refine at_does (does_val cal13 rfl rfl rfl (fun w hs => mod_any _ _ w (by decide))) rfl (fun _ => ?_)
                refine at_nil (dr_next (fun _ => (by first | exact List.Sublist.refl _ | (repeat first | exact List.Sublist.slnil | exact List.nil_sublist _ | apply List.Sublist.cons_cons | apply List.Sublist.cons))) ?_)
                refine dr_take 25 rfl (by kernel_rfl) (by first | exact List.Sublist.refl _ | (repeat first | exact List.Sublist.slnil | exact List.nil_sublist _ | apply List.Sublist.cons_cons | apply List.Sublist.cons)) (pv_build rfl (bu_54_0_1_2_3_4_5_6 _ _ _ _ _ _ _)) rfl ?_
                refine dr_one 27 (by kernel_rfl) rfl ?_
                refine at_turns (by exact turns_store sz_54 rfl rfl .agg rfl rfl (.s .z) (.rep (.rep (.rep (.rep (.rep (.rep (.rep .done))))))) (.s .z)) ?_
                refine at_nil (dr_next (fun h => by cases h) ?_)
                refine dr_done (by kernel_rfl) ?_
                exact ex_meet (8000 + x0 % 100000, 1000 + x1 % 100000, 1000 + x2 % 100000, x3 % 5000, 16 + x4 % 500, x5 % 5000, x6 % 5000, _) (by dsimp only; omega) ⟨rfl, rfl, rfl, trivial⟩ (by repeat first | exact List.nil_sublist _ | apply List.Sublist.cons_cons | apply List.Sublist.cons)
            · skip
              refine at_does (does_alloc ze_54 .agg (fun _ => (.cons .nil))) rfl (fun g5 => ?_)
              refine at_nil (dr_next (fun _ => (by first | exact List.Sublist.refl _ | (repeat first | exact List.Sublist.slnil | exact List.nil_sublist _ | apply List.Sublist.cons_cons | apply List.Sublist.cons))) ?_)
              refine dr_one 17 (by kernel_rfl) rfl ?_
              refine at_does (does_val cal13 rfl rfl rfl (fun w hs => mod_any _ _ w (by decide))) rfl (fun _ => ?_)
              refine at_nil (dr_next (fun _ => (by first | exact List.Sublist.refl _ | (repeat first | exact List.Sublist.slnil | exact List.nil_sublist _ | apply List.Sublist.cons_cons | apply List.Sublist.cons))) ?_)
              refine dr_take 18 rfl (by kernel_rfl) (by first | exact List.Sublist.refl _ | (repeat first | exact List.Sublist.slnil | exact List.nil_sublist _ | apply List.Sublist.cons_cons | apply List.Sublist.cons)) (by first | exact pv_add_n rfl rfl (by unfold In64; omega) | exact pv_add rfl rfl) rfl ?_
              refine dr_one 21 (by kernel_rfl) rfl ?_
              refine at_does (does_val cal13 rfl rfl rfl (fun w hs => mod_any _ _ w (by decide))) rfl (fun _ => ?_)
              refine at_nil (dr_next (fun _ => (by first | exact List.Sublist.refl _ | (repeat first | exact List.Sublist.slnil | exact List.nil_sublist _ | apply List.Sublist.cons_cons | apply List.Sublist.cons))) ?_)
              refine dr_one 24 (by kernel_rfl) rfl ?_
              refine at_does (does_val cal13 rfl rfl rfl (fun w hs => mod_any _ _ w (by decide))) rfl (fun _ => ?_)
              refine at_nil (dr_next (fun _ => (by first | exact List.Sublist.refl _ | (repeat first | exact List.Sublist.slnil | exact List.nil_sublist _ | apply List.Sublist.cons_cons | apply List.Sublist.cons))) ?_)
              refine dr_take 25 rfl (by kernel_rfl) (by first | exact List.Sublist.refl _ | (repeat first | exact List.Sublist.slnil | exact List.nil_sublist _ | apply List.Sublist.cons_cons | apply List.Sublist.cons)) (pv_build rfl (bu_54_0_1_2_3_4_5_6 _ _ _ _ _ _ _)) rfl ?_
              refine dr_one 27 (by kernel_rfl) rfl ?_
              refine at_turns (by exact turns_store sz_54 rfl rfl .agg rfl rfl (.s .z) (.rep (.rep (.rep (.rep (.rep (.rep (.rep .done))))))) (.s .z)) ?_
              refine at_nil (dr_next (fun h => by cases h) ?_)
              refine dr_done (by kernel_rfl) ?_
              exact ex_meet (8000 + x0 % 100000, 1000 + x1 % 100000, 1000 + x2 % 100000, x3 % 5000, 16 + x4 % 500, x5 % 5000, x6 % 5000, _) (by dsimp only; omega) ⟨rfl, rfl, rfl, trivial⟩ (by repeat first | exact List.nil_sublist _ | apply List.Sublist.cons_cons | apply List.Sublist.cons)
          · skip
            refine at_does (does_alloc ze_54 .agg (fun _ => (.cons .nil))) rfl (fun g6 => ?_)
            refine at_nil (dr_next (fun _ => (by first | exact List.Sublist.refl _ | (repeat first | exact List.Sublist.slnil | exact List.nil_sublist _ | apply List.Sublist.cons_cons | apply List.Sublist.cons))) ?_)
            refine dr_one 14 (by kernel_rfl) rfl ?_
            refine at_does (does_val cal13 rfl rfl rfl (fun w hs => mod_any _ _ w (by decide))) rfl (fun _ => ?_)
            refine at_nil (dr_next (fun _ => (by first | exact List.Sublist.refl _ | (repeat first | exact List.Sublist.slnil | exact List.nil_sublist _ | apply List.Sublist.cons_cons | apply List.Sublist.cons))) ?_)
            refine dr_one 17 (by kernel_rfl) rfl ?_
            refine at_does (does_val cal13 rfl rfl rfl (fun w hs => mod_any _ _ w (by decide))) rfl (fun _ => ?_)
            refine at_nil (dr_next (fun _ => (by first | exact List.Sublist.refl _ | (repeat first | exact List.Sublist.slnil | exact List.nil_sublist _ | apply List.Sublist.cons_cons | apply List.Sublist.cons))) ?_)
            refine dr_take 18 rfl (by kernel_rfl) (by first | exact List.Sublist.refl _ | (repeat first | exact List.Sublist.slnil | exact List.nil_sublist _ | apply List.Sublist.cons_cons | apply List.Sublist.cons)) (by first | exact pv_add_n rfl rfl (by unfold In64; omega) | exact pv_add rfl rfl) rfl ?_
            refine dr_one 21 (by kernel_rfl) rfl ?_
            refine at_does (does_val cal13 rfl rfl rfl (fun w hs => mod_any _ _ w (by decide))) rfl (fun _ => ?_)
            refine at_nil (dr_next (fun _ => (by first | exact List.Sublist.refl _ | (repeat first | exact List.Sublist.slnil | exact List.nil_sublist _ | apply List.Sublist.cons_cons | apply List.Sublist.cons))) ?_)
            refine dr_one 24 (by kernel_rfl) rfl ?_
            refine at_does (does_val cal13 rfl rfl rfl (fun w hs => mod_any _ _ w (by decide))) rfl (fun _ => ?_)
            refine at_nil (dr_next (fun _ => (by first | exact List.Sublist.refl _ | (repeat first | exact List.Sublist.slnil | exact List.nil_sublist _ | apply List.Sublist.cons_cons | apply List.Sublist.cons))) ?_)
            refine dr_take 25 rfl (by kernel_rfl) (by first | exact List.Sublist.refl _ | (repeat first | exact List.Sublist.slnil | exact List.nil_sublist _ | apply List.Sublist.cons_cons | apply List.Sublist.cons)) (pv_build rfl (bu_54_0_1_2_3_4_5_6 _ _ _ _ _ _ _)) rfl ?_
            refine dr_one 27 (by kernel_rfl) rfl ?_
            refine at_turns (by exact turns_store sz_54 rfl rfl .agg rfl rfl (.s .z) (.rep (.rep (.rep (.rep (.rep (.rep (.rep .done))))))) (.s .z)) ?_
            refine at_nil (dr_next (fun h => by cases h) ?_)
            refine dr_done (by kernel_rfl) ?_
            exact ex_meet (8000 + x0 % 100000, 1000 + x1 % 100000, 1000 + x2 % 100000, x3 % 5000, 16 + x4 % 500, x5 % 5000, x6 % 5000, _) (by dsimp only; omega) ⟨rfl, rfl, rfl, trivial⟩ (by repeat first | exact List.nil_sublist _ | apply List.Sublist.cons_cons | apply List.Sublist.cons)
        · skip
          refine at_does (does_alloc ze_54 .agg (fun _ => (.cons .nil))) rfl (fun g7 => ?_)
          refine at_nil (dr_next (fun _ => (by first | exact List.Sublist.refl _ | (repeat first | exact List.Sublist.slnil | exact List.nil_sublist _ | apply List.Sublist.cons_cons | apply List.Sublist.cons))) ?_)
          refine dr_one 10 (by kernel_rfl) rfl ?_
          refine at_does (does_val cal13 rfl rfl rfl (fun w hs => mod_any _ _ w (by decide))) rfl (fun _ => ?_)
          refine at_nil (dr_next (fun _ => (by first | exact List.Sublist.refl _ | (repeat first | exact List.Sublist.slnil | exact List.nil_sublist _ | apply List.Sublist.cons_cons | apply List.Sublist.cons))) ?_)
          refine dr_take 11 rfl (by kernel_rfl) (by first | exact List.Sublist.refl _ | (repeat first | exact List.Sublist.slnil | exact List.nil_sublist _ | apply List.Sublist.cons_cons | apply List.Sublist.cons)) (by first | exact pv_add_n rfl rfl (by unfold In64; omega) | exact pv_add rfl rfl) rfl ?_
          refine dr_one 14 (by kernel_rfl) rfl ?_
          refine at_does (does_val cal13 rfl rfl rfl (fun w hs => mod_any _ _ w (by decide))) rfl (fun _ => ?_)
          refine at_nil (dr_next (fun _ => (by first | exact List.Sublist.refl _ | (repeat first | exact List.Sublist.slnil | exact List.nil_sublist _ | apply List.Sublist.cons_cons | apply List.Sublist.cons))) ?_)
          refine dr_one 17 (by kernel_rfl) rfl ?_
          refine at_does (does_val cal13 rfl rfl rfl (fun w hs => mod_any _ _ w (by decide))) rfl (fun _ => ?_)
          refine at_nil (dr_next (fun _ => (by first | exact List.Sublist.refl _ | (repeat first | exact List.Sublist.slnil | exact List.nil_sublist _ | apply List.Sublist.cons_cons | apply List.Sublist.cons))) ?_)
          refine dr_take 18 rfl (by kernel_rfl) (by first | exact List.Sublist.refl _ | (repeat first | exact List.Sublist.slnil | exact List.nil_sublist _ | apply List.Sublist.cons_cons | apply List.Sublist.cons)) (by first | exact pv_add_n rfl rfl (by unfold In64; omega) | exact pv_add rfl rfl) rfl ?_
          refine dr_one 21 (by kernel_rfl) rfl ?_
          refine at_does (does_val cal13 rfl rfl rfl (fun w hs => mod_any _ _ w (by decide))) rfl (fun _ => ?_)
          refine at_nil (dr_next (fun _ => (by first | exact List.Sublist.refl _ | (repeat first | exact List.Sublist.slnil | exact List.nil_sublist _ | apply List.Sublist.cons_cons | apply List.Sublist.cons))) ?_)
          refine dr_one 24 (by kernel_rfl) rfl ?_
          refine at_does (does_val cal13 rfl rfl rfl (fun w hs => mod_any _ _ w (by decide))) rfl (fun _ => ?_)
          refine at_nil (dr_next (fun _ => (by first | exact List.Sublist.refl _ | (repeat first | exact List.Sublist.slnil | exact List.nil_sublist _ | apply List.Sublist.cons_cons | apply List.Sublist.cons))) ?_)
          refine dr_take 25 rfl (by kernel_rfl) (by first | exact List.Sublist.refl _ | (repeat first | exact List.Sublist.slnil | exact List.nil_sublist _ | apply List.Sublist.cons_cons | apply List.Sublist.cons)) (pv_build rfl (bu_54_0_1_2_3_4_5_6 _ _ _ _ _ _ _)) rfl ?_
          refine dr_one 27 (by kernel_rfl) rfl ?_
          refine at_turns (by exact turns_store sz_54 rfl rfl .agg rfl rfl (.s .z) (.rep (.rep (.rep (.rep (.rep (.rep (.rep .done))))))) (.s .z)) ?_
          refine at_nil (dr_next (fun h => by cases h) ?_)
          refine dr_done (by kernel_rfl) ?_
          exact ex_meet (8000 + x0 % 100000, 1000 + x1 % 100000, 1000 + x2 % 100000, x3 % 5000, 16 + x4 % 500, x5 % 5000, x6 % 5000, _) (by dsimp only; omega) ⟨rfl, rfl, rfl, trivial⟩ (by repeat first | exact List.nil_sublist _ | apply List.Sublist.cons_cons | apply List.Sublist.cons)
      · skip
        refine at_does (does_alloc ze_54 .agg (fun _ => (.cons .nil))) rfl (fun g8 => ?_)
        refine at_nil (dr_next (fun _ => (by first | exact List.Sublist.refl _ | (repeat first | exact List.Sublist.slnil | exact List.nil_sublist _ | apply List.Sublist.cons_cons | apply List.Sublist.cons))) ?_)
        refine dr_one 6 (by kernel_rfl) rfl ?_
        refine at_does (does_val cal13 rfl rfl rfl (fun w hs => mod_any _ _ w (by decide))) rfl (fun _ => ?_)
        refine at_nil (dr_next (fun _ => (by first | exact List.Sublist.refl _ | (repeat first | exact List.Sublist.slnil | exact List.nil_sublist _ | apply List.Sublist.cons_cons | apply List.Sublist.cons))) ?_)
        refine dr_take 7 rfl (by kernel_rfl) (by first | exact List.Sublist.refl _ | (repeat first | exact List.Sublist.slnil | exact List.nil_sublist _ | apply List.Sublist.cons_cons | apply List.Sublist.cons)) (by first | exact pv_add_n rfl rfl (by unfold In64; omega) | exact pv_add rfl rfl) rfl ?_
        refine dr_one 10 (by kernel_rfl) rfl ?_
        refine at_does (does_val cal13 rfl rfl rfl (fun w hs => mod_any _ _ w (by decide))) rfl (fun _ => ?_)
        refine at_nil (dr_next (fun _ => (by first | exact List.Sublist.refl _ | (repeat first | exact List.Sublist.slnil | exact List.nil_sublist _ | apply List.Sublist.cons_cons | apply List.Sublist.cons))) ?_)
        refine dr_take 11 rfl (by kernel_rfl) (by first | exact List.Sublist.refl _ | (repeat first | exact List.Sublist.slnil | exact List.nil_sublist _ | apply List.Sublist.cons_cons | apply List.Sublist.cons)) (by first | exact pv_add_n rfl rfl (by unfold In64; omega) | exact pv_add rfl rfl) rfl ?_
        refine dr_one 14 (by kernel_rfl) rfl ?_
        refine at_does (does_val cal13 rfl rfl rfl (fun w hs => mod_any _ _ w (by decide))) rfl (fun _ => ?_)
        refine at_nil (dr_next (fun _ => (by first | exact List.Sublist.refl _ | (repeat first | exact List.Sublist.slnil | exact List.nil_sublist _ | apply List.Sublist.cons_cons | apply List.Sublist.cons))) ?_)
        refine dr_one 17 (by kernel_rfl) rfl ?_
        refine at_does (does_val cal13 rfl rfl rfl (fun w hs => mod_any _ _ w (by decide))) rfl (fun _ => ?_)
        refine at_nil (dr_next (fun _ => (by first | exact List.Sublist.refl _ | (repeat first | exact List.Sublist.slnil | exact List.nil_sublist _ | apply List.Sublist.cons_cons | apply List.Sublist.cons))) ?_)
        refine dr_take 18 rfl (by kernel_rfl) (by first | exact List.Sublist.refl _ | (repeat first | exact List.Sublist.slnil | exact List.nil_sublist _ | apply List.Sublist.cons_cons | apply List.Sublist.cons)) (by first | exact pv_add_n rfl rfl (by unfold In64; omega) | exact pv_add rfl rfl) rfl ?_
        refine dr_one 21 (by kernel_rfl) rfl ?_
        refine at_does (does_val cal13 rfl rfl rfl (fun w hs => mod_any _ _ w (by decide))) rfl (fun _ => ?_)
        refine at_nil (dr_next (fun _ => (by first | exact List.Sublist.refl _ | (repeat first | exact List.Sublist.slnil | exact List.nil_sublist _ | apply List.Sublist.cons_cons | apply List.Sublist.cons))) ?_)
        refine dr_one 24 (by kernel_rfl) rfl ?_
        refine at_does (does_val cal13 rfl rfl rfl (fun w hs => mod_any _ _ w (by decide))) rfl (fun _ => ?_)
        refine at_nil (dr_next (fun _ => (by first | exact List.Sublist.refl _ | (repeat first | exact List.Sublist.slnil | exact List.nil_sublist _ | apply List.Sublist.cons_cons | apply List.Sublist.cons))) ?_)
        refine dr_take 25 rfl (by kernel_rfl) (by first | exact List.Sublist.refl _ | (repeat first | exact List.Sublist.slnil | exact List.nil_sublist _ | apply List.Sublist.cons_cons | apply List.Sublist.cons)) (pv_build rfl (bu_54_0_1_2_3_4_5_6 _ _ _ _ _ _ _)) rfl ?_
        refine dr_one 27 (by kernel_rfl) rfl ?_
        refine at_turns (by exact turns_store sz_54 rfl rfl .agg rfl rfl (.s .z) (.rep (.rep (.rep (.rep (.rep (.rep (.rep .done))))))) (.s .z)) ?_
        refine at_nil (dr_next (fun h => by cases h) ?_)
        refine dr_done (by kernel_rfl) ?_
        exact ex_meet (8000 + x0 % 100000, 1000 + x1 % 100000, 1000 + x2 % 100000, x3 % 5000, 16 + x4 % 500, x5 % 5000, x6 % 5000, _) (by dsimp only; omega) ⟨rfl, rfl, rfl, trivial⟩ (by repeat first | exact List.nil_sublist _ | apply List.Sublist.cons_cons | apply List.Sublist.cons)
    · skip
      refine at_does (does_alloc ze_54 .agg (fun _ => (.cons .nil))) rfl (fun g9 => ?_)
      refine at_nil (dr_next (fun _ => (by first | exact List.Sublist.refl _ | (repeat first | exact List.Sublist.slnil | exact List.nil_sublist _ | apply List.Sublist.cons_cons | apply List.Sublist.cons))) ?_)
      refine dr_one 2 (by kernel_rfl) rfl ?_
      refine at_does (does_val cal13 rfl rfl rfl (fun w hs => mod_any _ _ w (by decide))) rfl (fun _ => ?_)
      refine at_nil (dr_next (fun _ => (by first | exact List.Sublist.refl _ | (repeat first | exact List.Sublist.slnil | exact List.nil_sublist _ | apply List.Sublist.cons_cons | apply List.Sublist.cons))) ?_)
      refine dr_take 3 rfl (by kernel_rfl) (by first | exact List.Sublist.refl _ | (repeat first | exact List.Sublist.slnil | exact List.nil_sublist _ | apply List.Sublist.cons_cons | apply List.Sublist.cons)) (by first | exact pv_add_n rfl rfl (by unfold In64; omega) | exact pv_add rfl rfl) rfl ?_
      refine dr_one 6 (by kernel_rfl) rfl ?_
      refine at_does (does_val cal13 rfl rfl rfl (fun w hs => mod_any _ _ w (by decide))) rfl (fun _ => ?_)
      refine at_nil (dr_next (fun _ => (by first | exact List.Sublist.refl _ | (repeat first | exact List.Sublist.slnil | exact List.nil_sublist _ | apply List.Sublist.cons_cons | apply List.Sublist.cons))) ?_)
      refine dr_take 7 rfl (by kernel_rfl) (by first | exact List.Sublist.refl _ | (repeat first | exact List.Sublist.slnil | exact List.nil_sublist _ | apply List.Sublist.cons_cons | apply List.Sublist.cons)) (by first | exact pv_add_n rfl rfl (by unfold In64; omega) | exact pv_add rfl rfl) rfl ?_
      refine dr_one 10 (by kernel_rfl) rfl ?_
      refine at_does (does_val cal13 rfl rfl rfl (fun w hs => mod_any _ _ w (by decide))) rfl (fun _ => ?_)
      refine at_nil (dr_next (fun _ => (by first | exact List.Sublist.refl _ | (repeat first | exact List.Sublist.slnil | exact List.nil_sublist _ | apply List.Sublist.cons_cons | apply List.Sublist.cons))) ?_)
      refine dr_take 11 rfl (by kernel_rfl) (by first | exact List.Sublist.refl _ | (repeat first | exact List.Sublist.slnil | exact List.nil_sublist _ | apply List.Sublist.cons_cons | apply List.Sublist.cons)) (by first | exact pv_add_n rfl rfl (by unfold In64; omega) | exact pv_add rfl rfl) rfl ?_
      refine dr_one 14 (by kernel_rfl) rfl ?_
      refine at_does (does_val cal13 rfl rfl rfl (fun w hs => mod_any _ _ w (by decide))) rfl (fun _ => ?_)
      refine at_nil (dr_next (fun _ => (by first | exact List.Sublist.refl _ | (repeat first | exact List.Sublist.slnil | exact List.nil_sublist _ | apply List.Sublist.cons_cons | apply List.Sublist.cons))) ?_)
      refine dr_one 17 (by kernel_rfl) rfl ?_
      refine at_does (does_val cal13 rfl rfl rfl (fun w hs => mod_any _ _ w (by decide))) rfl (fun _ => ?_)
      refine at_nil (dr_next (fun _ => (by first | exact List.Sublist.refl _ | (repeat first | exact List.Sublist.slnil | exact List.nil_sublist _ | apply List.Sublist.cons_cons | apply List.Sublist.cons))) ?_)
      refine dr_take 18 rfl (by kernel_rfl) (by first | exact List.Sublist.refl _ | (repeat first | exact List.Sublist.slnil | exact List.nil_sublist _ | apply List.Sublist.cons_cons | apply List.Sublist.cons)) (by first | exact pv_add_n rfl rfl (by unfold In64; omega) | exact pv_add rfl rfl) rfl ?_
      refine dr_one 21 (by kernel_rfl) rfl ?_
      refine at_does (does_val cal13 rfl rfl rfl (fun w hs => mod_any _ _ w (by decide))) rfl (fun _ => ?_)
      refine at_nil (dr_next (fun _ => (by first | exact List.Sublist.refl _ | (repeat first | exact List.Sublist.slnil | exact List.nil_sublist _ | apply List.Sublist.cons_cons | apply List.Sublist.cons))) ?_)
      refine dr_one 24 (by kernel_rfl) rfl ?_
      refine at_does (does_val cal13 rfl rfl rfl (fun w hs => mod_any _ _ w (by decide))) rfl (fun _ => ?_)
      refine at_nil (dr_next (fun _ => (by first | exact List.Sublist.refl _ | (repeat first | exact List.Sublist.slnil | exact List.nil_sublist _ | apply List.Sublist.cons_cons | apply List.Sublist.cons))) ?_)
      refine dr_take 25 rfl (by kernel_rfl) (by first | exact List.Sublist.refl _ | (repeat first | exact List.Sublist.slnil | exact List.nil_sublist _ | apply List.Sublist.cons_cons | apply List.Sublist.cons)) (pv_build rfl (bu_54_0_1_2_3_4_5_6 _ _ _ _ _ _ _)) rfl ?_
      refine dr_one 27 (by kernel_rfl) rfl ?_
      refine at_turns (by exact turns_store sz_54 rfl rfl .agg rfl rfl (.s .z) (.rep (.rep (.rep (.rep (.rep (.rep (.rep .done))))))) (.s .z)) ?_
      refine at_nil (dr_next (fun h => by cases h) ?_)
      refine dr_done (by kernel_rfl) ?_
      exact ex_meet (8000 + x0 % 100000, 1000 + x1 % 100000, 1000 + x2 % 100000, x3 % 5000, 16 + x4 % 500, x5 % 5000, x6 % 5000, _) (by dsimp only; omega) ⟨rfl, rfl, rfl, trivial⟩ (by repeat first | exact List.nil_sublist _ | apply List.Sublist.cons_cons | apply List.Sublist.cons)
  · rintro ⟨z0, z1, z2, z3, z4, z5, z6, gk⟩ hz
    dsimp only at hz ⊢
    have hr0 : 1000 ≤ z0 ∧ z0 ≤ 200000 := by omega
    have hr1 : 1000 ≤ z1 ∧ z1 ≤ 200000 := by omega
    have hr2 : 1000 ≤ z2 ∧ z2 ≤ 200000 := by omega
    have f1 := frames_in (n := z3) (by omega) hr1 hr0
    have f2 := frames_in (n := 2) (by omega) hr1 hr0
    have f3 := frames_in (n := z6) (by omega) hr2 hr0
    have f4 := frames_in (n := z3 + m) (by omega) hr1 hr0
    have f5 := frames_in (n := z6 + m) (by omega) hr2 hr0
    have f6 := frames_mono (n := z3) (n' := z3 + m) (by omega) (by omega) hr1 hr0
    have f7 := frames_mono (n := z6) (n' := z6 + m) (by omega) (by omega) hr2 hr0
    refine cd_seq ?_
    refine cd_region ?_
    refine at_pure (by exact pv_loads_box ag_54 rfl .z (.take (.take (.take (.take (.take (.take (.take .done)))))))) rfl ?_
    refine at_does (does_val cal24 rfl rfl rfl (fun w hs => of_ok (by omega) (by omega) (by omega) (by omega) (by omega) (by omega) (by omega) w)) rfl (fun _ => ?_)
    refine at_pure (pv_move rfl) rfl ?_
    refine at_pure (pv_extract rfl rfl) rfl ?_
    refine at_pure (pv_extract rfl rfl) rfl ?_
    refine at_does (does_alloc ze_56 .agg (fun _ => (.cons .nil))) rfl (fun g10 => ?_)
    refine at_turns (by exact turns_store sz_56 rfl rfl .agg rfl rfl (.s .z) (.rep (.rep (.rep (.rep (.rep .done))))) (.s .z)) ?_
    refine at_pure (pv_assign rfl) rfl ?_
    refine at_nil ?_
    refine ex_go ?_
    refine cd_seq ?_
    refine cd_seq ?_
    refine cd_draw' 12 follows ?_
    refine dr_take 0 rfl (by kernel_rfl) (by first | exact List.Sublist.refl _ | (repeat first | exact List.Sublist.slnil | exact List.nil_sublist _ | apply List.Sublist.cons_cons | apply List.Sublist.cons)) (pv_move rfl) rfl ?_
    refine dr_take 1 rfl (by kernel_rfl) (by first | exact List.Sublist.refl _ | (repeat first | exact List.Sublist.slnil | exact List.nil_sublist _ | apply List.Sublist.cons_cons | apply List.Sublist.cons)) (pv_neq_same rfl rfl) rfl ?_
    refine dr_take 2 rfl (by kernel_rfl) (by first | exact List.Sublist.refl _ | (repeat first | exact List.Sublist.slnil | exact List.nil_sublist _ | apply List.Sublist.cons_cons | apply List.Sublist.cons)) (pv_move rfl) rfl ?_
    refine dr_take_g 3 rfl rfl rfl rfl (by kernel_rfl) (by first | exact List.Sublist.refl _ | (repeat first | exact List.Sublist.slnil | exact List.nil_sublist _ | apply List.Sublist.cons_cons | apply List.Sublist.cons)) (by exact pv_loads_box ag_56 rfl (.s .z) (.take (.take (.take (.take (.take .done)))))) rfl ?_
    refine dr_take_g 5 rfl rfl rfl rfl (by kernel_rfl) (by first | exact List.Sublist.refl _ | (repeat first | exact List.Sublist.slnil | exact List.nil_sublist _ | apply List.Sublist.cons_cons | apply List.Sublist.cons)) (pv_field0 fa_54_4 rfl (r := 4) rfl) rfl ?_
    refine dr_take_g 6 rfl rfl rfl rfl (by kernel_rfl) (by first | exact List.Sublist.refl _ | (repeat first | exact List.Sublist.slnil | exact List.nil_sublist _ | apply List.Sublist.cons_cons | apply List.Sublist.cons)) (by exact pv_load ld_3 rfl (box_cell .z (.s (.s (.s (.s .z)))))) rfl ?_
    refine dr_take_g 7 rfl rfl rfl rfl (by kernel_rfl) (by first | exact List.Sublist.refl _ | (repeat first | exact List.Sublist.slnil | exact List.nil_sublist _ | apply List.Sublist.cons_cons | apply List.Sublist.cons)) (pv_field0 fa_54_5 rfl (r := 5) rfl) rfl ?_
    refine dr_take_g 8 rfl rfl rfl rfl (by kernel_rfl) (by first | exact List.Sublist.refl _ | (repeat first | exact List.Sublist.slnil | exact List.nil_sublist _ | apply List.Sublist.cons_cons | apply List.Sublist.cons)) (by exact pv_load ld_3 rfl (box_cell .z (.s (.s (.s (.s (.s .z))))))) rfl ?_
    refine dr_take_g 9 rfl rfl rfl rfl (by kernel_rfl) (by first | exact List.Sublist.refl _ | (repeat first | exact List.Sublist.slnil | exact List.nil_sublist _ | apply List.Sublist.cons_cons | apply List.Sublist.cons)) (by first | exact pv_add_n rfl rfl (by unfold In64; omega) | exact pv_add rfl rfl) rfl ?_
    refine dr_one 4 (by kernel_rfl) rfl ?_
    refine at_does_g rfl rfl rfl (does_val cal25 rfl rfl rfl (fun w hs => total_ok (by omega) (by omega) (by omega) (by omega) (by omega) w)) rfl (fun _ => ?_)
    refine at_nil (dr_next (fun _ => (by first | exact List.Sublist.refl _ | (repeat first | exact List.Sublist.slnil | exact List.nil_sublist _ | apply List.Sublist.cons_cons | apply List.Sublist.cons))) ?_)
    refine dr_take_g 10 rfl rfl rfl rfl (by kernel_rfl) (by first | exact List.Sublist.refl _ | (repeat first | exact List.Sublist.slnil | exact List.nil_sublist _ | apply List.Sublist.cons_cons | apply List.Sublist.cons)) (pv_lss rfl rfl) rfl ?_
    refine dr_take 11 rfl (by kernel_rfl) (by first | exact List.Sublist.refl _ | (repeat first | exact List.Sublist.slnil | exact List.nil_sublist _ | apply List.Sublist.cons_cons | apply List.Sublist.cons)) (pv_pick_f rfl rfl rfl) rfl ?_
    refine dr_done (by kernel_rfl) ?_
    refine ex_go ?_
    refine cd_if rfl (fun hb1 => ?_) (fun hb1 => ?_)
    · exact absurd hb1 (by simp; omega)
    · skip
      refine cd_skip ?_
      refine ex_go ?_
      refine cd_cut (σ := Unit) (fun _ => [(1, .slice a0 len0 cap0)]) (fun _ => []) (fun _ => True) ?_ ?_
      · skip
        refine cd_seq ?_
        refine cd_region ?_
        refine at_pure (pv_assign rfl) rfl ?_
        refine at_nil ?_
        refine ex_go ?_
        refine cd_block ?_
        refine cd_rounds 4 ?_
        refine cd_seq ?_
        refine cd_seq ?_
        refine cd_region ?_
        refine at_pure (pv_move rfl) rfl ?_
        refine at_pure (pv_lss rfl rfl) rfl ?_
        refine at_nil ?_
        refine ex_go ?_
        refine cd_then rfl (by decide) ?_
        refine cd_skip ?_
        refine ex_go ?_
        refine cd_seq ?_
        refine cd_block ?_
        refine cd_seq ?_
        refine cd_region ?_
        refine at_pure (by exact pv_loads_box ag_54 rfl .z (.take (.take (.take (.take (.take (.take (.take .done)))))))) rfl ?_
        refine at_does (does_alloc ze_54 .agg (fun _ => (.cons (.cons .nil)))) rfl (fun g11 => ?_)
        refine at_turns (by exact turns_store sz_54 rfl rfl .agg rfl rfl (.s (.s .z)) (.rep (.rep (.rep (.rep (.rep (.rep (.rep .done))))))) (.s (.s .z))) ?_
        refine at_nil ?_
        refine ex_go ?_
        refine cd_seq ?_
        refine cd_seq ?_
        refine cd_region ?_
        refine at_pure (pv_move rfl) rfl ?_
        refine at_nil ?_
        refine ex_go ?_
        refine cd_block ?_
        refine cd_seq ?_
        refine cd_region ?_
        refine at_pure (pv_eql rfl rfl) rfl ?_
        refine at_pure (pv_assign rfl) rfl ?_
        refine at_nil ?_
        refine ex_go ?_
        refine cd_then rfl (by decide) ?_
        refine cd_region ?_
        refine at_pure (pv_field0 fa_54_3 rfl (r := 3) rfl) rfl ?_
        refine at_pure (by exact pv_load ld_3 rfl (box_cell (.s (.s .z)) (.s (.s (.s .z))))) rfl ?_
        refine at_pure (pv_move rfl) rfl ?_
        refine at_pure (pv_conv us_5 Try.underlying3 rfl (by rw [wrap_i64, wrap64_in (by unfold In64; omega)])) rfl ?_
        refine at_pure (by first | exact pv_add_n rfl rfl (by unfold In64; omega) | exact pv_add rfl rfl) rfl ?_
        refine at_pure (pv_field0 fa_54_3 rfl (r := 3) rfl) rfl ?_
        refine at_turns (by exact turns_store sz_3 rfl rfl (.one rfl) rfl rfl (.s (.s .z)) (.skip (.skip (.skip (.rep .done)))) (.s (.s .z))) ?_
        refine at_nil ?_
        refine ex_in_normal (ex_go ?_)
        refine cd_seq ?_
        refine cd_region ?_
        refine at_pure (by exact pv_loads_box ag_54 rfl (.s (.s .z)) (.take (.take (.take (.take (.take (.take (.take .done)))))))) rfl ?_
        refine at_does (does_val cal24 rfl rfl rfl (fun w hs => of_ok (by omega) (by omega) (by omega) (by omega) (by omega) (by omega) (by omega) w)) rfl (fun _ => ?_)
        refine at_pure (pv_move rfl) rfl ?_
        refine at_pure (pv_extract rfl rfl) rfl ?_
        refine at_pure (pv_extract rfl rfl) rfl ?_
        refine at_does (does_alloc ze_56 .agg (fun _ => (.cons (.cons (.cons .nil))))) rfl (fun g12 => ?_)
        refine at_turns (by exact turns_store sz_56 rfl rfl .agg rfl rfl (.s (.s (.s .z))) (.rep (.rep (.rep (.rep (.rep .done))))) (.s (.s (.s .z)))) ?_
        refine at_pure (pv_assign rfl) rfl ?_
        refine at_nil ?_
        refine ex_go ?_
        refine cd_seq ?_
        refine cd_draw' 9 follows ?_
        refine dr_take 0 rfl (by kernel_rfl) (by first | exact List.Sublist.refl _ | (repeat first | exact List.Sublist.slnil | exact List.nil_sublist _ | apply List.Sublist.cons_cons | apply List.Sublist.cons)) (pv_move rfl) rfl ?_
        refine dr_take 1 rfl (by kernel_rfl) (by first | exact List.Sublist.refl _ | (repeat first | exact List.Sublist.slnil | exact List.nil_sublist _ | apply List.Sublist.cons_cons | apply List.Sublist.cons)) (pv_neq_same rfl rfl) rfl ?_
        refine dr_take 2 rfl (by kernel_rfl) (by first | exact List.Sublist.refl _ | (repeat first | exact List.Sublist.slnil | exact List.nil_sublist _ | apply List.Sublist.cons_cons | apply List.Sublist.cons)) (pv_move rfl) rfl ?_
        refine dr_take_g 3 rfl rfl rfl rfl (by kernel_rfl) (by first | exact List.Sublist.refl _ | (repeat first | exact List.Sublist.slnil | exact List.nil_sublist _ | apply List.Sublist.cons_cons | apply List.Sublist.cons)) (by exact pv_loads_box ag_56 rfl (.s (.s (.s .z))) (.take (.take (.take (.take (.take .done)))))) rfl ?_
        refine dr_take_g 5 rfl rfl rfl rfl (by kernel_rfl) (by first | exact List.Sublist.refl _ | (repeat first | exact List.Sublist.slnil | exact List.nil_sublist _ | apply List.Sublist.cons_cons | apply List.Sublist.cons)) (by exact pv_loads_box ag_56 rfl (.s .z) (.take (.take (.take (.take (.take .done)))))) rfl ?_
        refine dr_one 4 (by kernel_rfl) rfl ?_
        refine at_does_g rfl rfl rfl (does_val cal25 rfl rfl rfl (fun w hs => total_ok (by omega) (by omega) (by omega) (by omega) (by omega) w)) rfl (fun _ => ?_)
        refine at_nil (dr_next (fun _ => (by first | exact List.Sublist.refl _ | (repeat first | exact List.Sublist.slnil | exact List.nil_sublist _ | apply List.Sublist.cons_cons | apply List.Sublist.cons))) ?_)
        refine dr_one 6 (by kernel_rfl) rfl ?_
        refine at_does_g rfl rfl rfl (does_val cal25 rfl rfl rfl (fun w hs => total_ok (by omega) (by omega) (by omega) (by omega) (by omega) w)) rfl (fun _ => ?_)
        refine at_nil (dr_next (fun _ => (by first | exact List.Sublist.refl _ | (repeat first | exact List.Sublist.slnil | exact List.nil_sublist _ | apply List.Sublist.cons_cons | apply List.Sublist.cons))) ?_)
        refine dr_take_g 7 rfl rfl rfl rfl (by kernel_rfl) (by first | exact List.Sublist.refl _ | (repeat first | exact List.Sublist.slnil | exact List.nil_sublist _ | apply List.Sublist.cons_cons | apply List.Sublist.cons)) (pv_lss rfl rfl) rfl ?_
        refine dr_take 8 rfl (by kernel_rfl) (by first | exact List.Sublist.refl _ | (repeat first | exact List.Sublist.slnil | exact List.nil_sublist _ | apply List.Sublist.cons_cons | apply List.Sublist.cons)) (pv_pick_f rfl rfl rfl) rfl ?_
        refine dr_done (by kernel_rfl) ?_
        refine ex_go ?_
        refine cd_if rfl (fun hb2 => ?_) (fun hb2 => ?_)
        · skip
          refine cd_seq ?_
          refine cd_region ?_
          refine at_pure (pv_assign rfl) rfl ?_
          refine at_nil ?_
          refine ex_go ?_
          refine cd_ret ?_
          refine ex_in_ret (ex_then_ret (ex_then_ret (ex_in_ret (ex_then_ret ?_))))
          exact end_ret1 rfl rfl (fun w hs => by first | exact Val.mk hs | (exfalso; clear hs; simp only [decide_eq_true_eq] at *; omega))
        · skip
          refine cd_skip ?_
          refine ex_in_normal (ex_go ?_)
          refine cd_region ?_
          refine at_pure (pv_move rfl) rfl ?_
          refine at_pure (by first | exact pv_add_n rfl rfl (by unfold In64; omega) | exact pv_add rfl rfl) rfl ?_
          refine at_pure (pv_assign rfl) rfl ?_
          refine at_nil ?_
          refine ex_round ?_
          refine cd_seq ?_
          refine cd_seq ?_
          refine cd_region ?_
          refine at_pure (pv_move rfl) rfl ?_
          refine at_pure (pv_lss rfl rfl) rfl ?_
          refine at_nil ?_
          refine ex_go ?_
          refine cd_then rfl (by decide) ?_
          refine cd_skip ?_
          refine ex_go ?_
          refine cd_seq ?_
          refine cd_block ?_
          refine cd_seq ?_
          refine cd_region ?_
          refine at_pure (by exact pv_loads_box ag_54 rfl .z (.take (.take (.take (.take (.take (.take (.take .done)))))))) rfl ?_
          refine at_does (does_alloc ze_54 .agg (fun _ => (.cons (.cons (.cons (.cons .nil)))))) rfl (fun g13 => ?_)
          refine at_turns (by exact turns_store sz_54 rfl rfl .agg rfl rfl (.s (.s (.s (.s .z)))) (.rep (.rep (.rep (.rep (.rep (.rep (.rep .done))))))) (.s (.s (.s (.s .z))))) ?_
          refine at_nil ?_
          refine ex_go ?_
          refine cd_seq ?_
          refine cd_seq ?_
          refine cd_region ?_
          refine at_pure (pv_move rfl) rfl ?_
          refine at_nil ?_
          refine ex_go ?_
          refine cd_block ?_
          refine cd_seq ?_
          refine cd_region ?_
          refine at_pure (pv_eql rfl rfl) rfl ?_
          refine at_pure (pv_assign rfl) rfl ?_
          refine at_nil ?_
          refine ex_go ?_
          refine cd_else rfl (by decide) ?_
          refine cd_seq ?_
          refine cd_region ?_
          refine at_pure (pv_eql rfl rfl) rfl ?_
          refine at_pure (pv_assign rfl) rfl ?_
          refine at_nil ?_
          refine ex_go ?_
          refine cd_then rfl (by decide) ?_
          refine cd_region ?_
          refine at_pure (pv_field0 fa_54_5 rfl (r := 5) rfl) rfl ?_
          refine at_pure (by exact pv_load ld_3 rfl (box_cell (.s (.s (.s (.s .z)))) (.s (.s (.s (.s (.s .z))))))) rfl ?_
          refine at_pure (pv_move rfl) rfl ?_
          refine at_pure (pv_conv us_5 Try.underlying3 rfl (by rw [wrap_i64, wrap64_in (by unfold In64; omega)])) rfl ?_
          refine at_pure (by first | exact pv_add_n rfl rfl (by unfold In64; omega) | exact pv_add rfl rfl) rfl ?_
          refine at_pure (pv_field0 fa_54_5 rfl (r := 5) rfl) rfl ?_
          refine at_turns (by exact turns_store sz_3 rfl rfl (.one rfl) rfl rfl (.s (.s (.s (.s .z)))) (.skip (.skip (.skip (.skip (.skip (.rep .done)))))) (.s (.s (.s (.s .z))))) ?_
          refine at_nil ?_
          refine ex_in_normal (ex_go ?_)
          refine cd_seq ?_
          refine cd_region ?_
          refine at_pure (by exact pv_loads_box ag_54 rfl (.s (.s (.s (.s .z)))) (.take (.take (.take (.take (.take (.take (.take .done)))))))) rfl ?_
          refine at_does (does_val cal24 rfl rfl rfl (fun w hs => of_ok (by omega) (by omega) (by omega) (by omega) (by omega) (by omega) (by omega) w)) rfl (fun _ => ?_)
          refine at_pure (pv_move rfl) rfl ?_
          refine at_pure (pv_extract rfl rfl) rfl ?_
          refine at_pure (pv_extract rfl rfl) rfl ?_
          refine at_does (does_alloc ze_56 .agg (fun _ => (.cons (.cons (.cons (.cons (.cons .nil))))))) rfl (fun g14 => ?_)
          refine at_turns (by exact turns_store sz_56 rfl rfl .agg rfl rfl (.s (.s (.s (.s (.s .z))))) (.rep (.rep (.rep (.rep (.rep .done))))) (.s (.s (.s (.s (.s .z)))))) ?_
          refine at_pure (pv_assign rfl) rfl ?_
          refine at_nil ?_
          refine ex_go ?_
          refine cd_seq ?_
          refine cd_draw' 9 follows ?_
          refine dr_take 0 rfl (by kernel_rfl) (by first | exact List.Sublist.refl _ | (repeat first | exact List.Sublist.slnil | exact List.nil_sublist _ | apply List.Sublist.cons_cons | apply List.Sublist.cons)) (pv_move rfl) rfl ?_
          refine dr_take 1 rfl (by kernel_rfl) (by first | exact List.Sublist.refl _ | (repeat first | exact List.Sublist.slnil | exact List.nil_sublist _ | apply List.Sublist.cons_cons | apply List.Sublist.cons)) (pv_neq_same rfl rfl) rfl ?_
          refine dr_take 2 rfl (by kernel_rfl) (by first | exact List.Sublist.refl _ | (repeat first | exact List.Sublist.slnil | exact List.nil_sublist _ | apply List.Sublist.cons_cons | apply List.Sublist.cons)) (pv_move rfl) rfl ?_
          refine dr_take_g 3 rfl rfl rfl rfl (by kernel_rfl) (by first | exact List.Sublist.refl _ | (repeat first | exact List.Sublist.slnil | exact List.nil_sublist _ | apply List.Sublist.cons_cons | apply List.Sublist.cons)) (by exact pv_loads_box ag_56 rfl (.s (.s (.s (.s (.s .z))))) (.take (.take (.take (.take (.take .done)))))) rfl ?_
          refine dr_take_g 5 rfl rfl rfl rfl (by kernel_rfl) (by first | exact List.Sublist.refl _ | (repeat first | exact List.Sublist.slnil | exact List.nil_sublist _ | apply List.Sublist.cons_cons | apply List.Sublist.cons)) (by exact pv_loads_box ag_56 rfl (.s .z) (.take (.take (.take (.take (.take .done)))))) rfl ?_
          refine dr_one 4 (by kernel_rfl) rfl ?_
          refine at_does_g rfl rfl rfl (does_val cal25 rfl rfl rfl (fun w hs => total_ok (by omega) (by omega) (by omega) (by omega) (by omega) w)) rfl (fun _ => ?_)
          refine at_nil (dr_next (fun _ => (by first | exact List.Sublist.refl _ | (repeat first | exact List.Sublist.slnil | exact List.nil_sublist _ | apply List.Sublist.cons_cons | apply List.Sublist.cons))) ?_)
          refine dr_one 6 (by kernel_rfl) rfl ?_
          refine at_does_g rfl rfl rfl (does_val cal25 rfl rfl rfl (fun w hs => total_ok (by omega) (by omega) (by omega) (by omega) (by omega) w)) rfl (fun _ => ?_)
          refine at_nil (dr_next (fun _ => (by first | exact List.Sublist.refl _ | (repeat first | exact List.Sublist.slnil | exact List.nil_sublist _ | apply List.Sublist.cons_cons | apply List.Sublist.cons))) ?_)
          refine dr_take_g 7 rfl rfl rfl rfl (by kernel_rfl) (by first | exact List.Sublist.refl _ | (repeat first | exact List.Sublist.slnil | exact List.nil_sublist _ | apply List.Sublist.cons_cons | apply List.Sublist.cons)) (pv_lss rfl rfl) rfl ?_
          refine dr_take 8 rfl (by kernel_rfl) (by first | exact List.Sublist.refl _ | (repeat first | exact List.Sublist.slnil | exact List.nil_sublist _ | apply List.Sublist.cons_cons | apply List.Sublist.cons)) (pv_pick_f rfl rfl rfl) rfl ?_
          refine dr_done (by kernel_rfl) ?_
          refine ex_go ?_
          refine cd_if rfl (fun hb3 => ?_) (fun hb3 => ?_)
          · skip
            refine cd_seq ?_
            refine cd_region ?_
            refine at_pure (pv_assign rfl) rfl ?_
            refine at_nil ?_
            refine ex_go ?_
            refine cd_ret ?_
            refine ex_in_ret (ex_then_ret (ex_then_ret (ex_in_ret (ex_then_ret ?_))))
            exact end_ret1 rfl rfl (fun w hs => by first | exact Val.mk hs | (exfalso; clear hs; simp only [decide_eq_true_eq] at *; omega))
          · skip
            refine cd_skip ?_
            refine ex_in_normal (ex_go ?_)
            refine cd_region ?_
            refine at_pure (pv_move rfl) rfl ?_
            refine at_pure (by first | exact pv_add_n rfl rfl (by unfold In64; omega) | exact pv_add rfl rfl) rfl ?_
            refine at_pure (pv_assign rfl) rfl ?_
            refine at_nil ?_
            refine ex_round ?_
            refine cd_seq ?_
            refine cd_seq ?_
            refine cd_region ?_
            refine at_pure (pv_move rfl) rfl ?_
            refine at_pure (pv_lss rfl rfl) rfl ?_
            refine at_nil ?_
            refine ex_go ?_
            refine cd_then rfl (by decide) ?_
            refine cd_skip ?_
            refine ex_go ?_
            refine cd_seq ?_
            refine cd_block ?_
            refine cd_seq ?_
            refine cd_region ?_
            refine at_pure (by exact pv_loads_box ag_54 rfl .z (.take (.take (.take (.take (.take (.take (.take .done)))))))) rfl ?_
            refine at_does (does_alloc ze_54 .agg (fun _ => (.cons (.cons (.cons (.cons (.cons (.cons .nil)))))))) rfl (fun g15 => ?_)
            refine at_turns (by exact turns_store sz_54 rfl rfl .agg rfl rfl (.s (.s (.s (.s (.s (.s .z)))))) (.rep (.rep (.rep (.rep (.rep (.rep (.rep .done))))))) (.s (.s (.s (.s (.s (.s .z))))))) ?_
            refine at_nil ?_
            refine ex_go ?_
            refine cd_seq ?_
            refine cd_seq ?_
            refine cd_region ?_
            refine at_pure (pv_move rfl) rfl ?_
            refine at_nil ?_
            refine ex_go ?_
            refine cd_block ?_
            refine cd_seq ?_
            refine cd_region ?_
            refine at_pure (pv_eql rfl rfl) rfl ?_
            refine at_pure (pv_assign rfl) rfl ?_
            refine at_nil ?_
            refine ex_go ?_
            refine cd_else rfl (by decide) ?_
            refine cd_seq ?_
            refine cd_region ?_
            refine at_pure (pv_eql rfl rfl) rfl ?_
            refine at_pure (pv_assign rfl) rfl ?_
            refine at_nil ?_
            refine ex_go ?_
            refine cd_else rfl (by decide) ?_
            refine cd_seq ?_
            refine cd_region ?_
            refine at_pure (pv_eql rfl rfl) rfl ?_
            refine at_pure (pv_assign rfl) rfl ?_
            refine at_nil ?_
            refine ex_go ?_
            refine cd_then rfl (by decide) ?_
            refine cd_region ?_
            refine at_pure (pv_field0 fa_54_6 rfl (r := 6) rfl) rfl ?_
            refine at_pure (by exact pv_load ld_3 rfl (box_cell (.s (.s (.s (.s (.s (.s .z)))))) (.s (.s (.s (.s (.s (.s .z)))))))) rfl ?_
            refine at_pure (pv_move rfl) rfl ?_
            refine at_pure (pv_conv us_5 Try.underlying3 rfl (by rw [wrap_i64, wrap64_in (by unfold In64; omega)])) rfl ?_
            refine at_pure (by first | exact pv_add_n rfl rfl (by unfold In64; omega) | exact pv_add rfl rfl) rfl ?_
            refine at_pure (pv_field0 fa_54_6 rfl (r := 6) rfl) rfl ?_
            refine at_turns (by exact turns_store sz_3 rfl rfl (.one rfl) rfl rfl (.s (.s (.s (.s (.s (.s .z)))))) (.skip (.skip (.skip (.skip (.skip (.skip (.rep .done))))))) (.s (.s (.s (.s (.s (.s .z))))))) ?_
            refine at_nil ?_
            refine ex_in_normal (ex_go ?_)
            refine cd_seq ?_
            refine cd_region ?_
            refine at_pure (by exact pv_loads_box ag_54 rfl (.s (.s (.s (.s (.s (.s .z)))))) (.take (.take (.take (.take (.take (.take (.take .done)))))))) rfl ?_
            refine at_does (does_val cal24 rfl rfl rfl (fun w hs => of_ok (by omega) (by omega) (by omega) (by omega) (by omega) (by omega) (by omega) w)) rfl (fun _ => ?_)
            refine at_pure (pv_move rfl) rfl ?_
            refine at_pure (pv_extract rfl rfl) rfl ?_
            refine at_pure (pv_extract rfl rfl) rfl ?_
            refine at_does (does_alloc ze_56 .agg (fun _ => (.cons (.cons (.cons (.cons (.cons (.cons (.cons .nil))))))))) rfl (fun g16 => ?_)
            refine at_turns (by exact turns_store sz_56 rfl rfl .agg rfl rfl (.s (.s (.s (.s (.s (.s (.s .z))))))) (.rep (.rep (.rep (.rep (.rep .done))))) (.s (.s (.s (.s (.s (.s (.s .z)))))))) ?_
            refine at_pure (pv_assign rfl) rfl ?_
            refine at_nil ?_
            refine ex_go ?_
            refine cd_seq ?_
            refine cd_draw' 9 follows ?_
            refine dr_take 0 rfl (by kernel_rfl) (by first | exact List.Sublist.refl _ | (repeat first | exact List.Sublist.slnil | exact List.nil_sublist _ | apply List.Sublist.cons_cons | apply List.Sublist.cons)) (pv_move rfl) rfl ?_
            refine dr_take 1 rfl (by kernel_rfl) (by first | exact List.Sublist.refl _ | (repeat first | exact List.Sublist.slnil | exact List.nil_sublist _ | apply List.Sublist.cons_cons | apply List.Sublist.cons)) (pv_neq_same rfl rfl) rfl ?_
            refine dr_take 2 rfl (by kernel_rfl) (by first | exact List.Sublist.refl _ | (repeat first | exact List.Sublist.slnil | exact List.nil_sublist _ | apply List.Sublist.cons_cons | apply List.Sublist.cons)) (pv_move rfl) rfl ?_
            refine dr_take_g 3 rfl rfl rfl rfl (by kernel_rfl) (by first | exact List.Sublist.refl _ | (repeat first | exact List.Sublist.slnil | exact List.nil_sublist _ | apply List.Sublist.cons_cons | apply List.Sublist.cons)) (by exact pv_loads_box ag_56 rfl (.s (.s (.s (.s (.s (.s (.s .z))))))) (.take (.take (.take (.take (.take .done)))))) rfl ?_
            refine dr_take_g 5 rfl rfl rfl rfl (by kernel_rfl) (by first | exact List.Sublist.refl _ | (repeat first | exact List.Sublist.slnil | exact List.nil_sublist _ | apply List.Sublist.cons_cons | apply List.Sublist.cons)) (by exact pv_loads_box ag_56 rfl (.s .z) (.take (.take (.take (.take (.take .done)))))) rfl ?_
            refine dr_one 4 (by kernel_rfl) rfl ?_
            refine at_does_g rfl rfl rfl (does_val cal25 rfl rfl rfl (fun w hs => total_ok (by omega) (by omega) (by omega) (by omega) (by omega) w)) rfl (fun _ => ?_)
            refine at_nil (dr_next (fun _ => (by first | exact List.Sublist.refl _ | (repeat first | exact List.Sublist.slnil | exact List.nil_sublist _ | apply List.Sublist.cons_cons | apply List.Sublist.cons))) ?_)
            refine dr_one 6 (by kernel_rfl) rfl ?_
            refine at_does_g rfl rfl rfl (does_val cal25 rfl rfl rfl (fun w hs => total_ok (by omega) (by omega) (by omega) (by omega) (by omega) w)) rfl (fun _ => ?_)
            refine at_nil (dr_next (fun _ => (by first | exact List.Sublist.refl _ | (repeat first | exact List.Sublist.slnil | exact List.nil_sublist _ | apply List.Sublist.cons_cons | apply List.Sublist.cons))) ?_)
            refine dr_take_g 7 rfl rfl rfl rfl (by kernel_rfl) (by first | exact List.Sublist.refl _ | (repeat first | exact List.Sublist.slnil | exact List.nil_sublist _ | apply List.Sublist.cons_cons | apply List.Sublist.cons)) (pv_lss rfl rfl) rfl ?_
            refine dr_take 8 rfl (by kernel_rfl) (by first | exact List.Sublist.refl _ | (repeat first | exact List.Sublist.slnil | exact List.nil_sublist _ | apply List.Sublist.cons_cons | apply List.Sublist.cons)) (pv_pick_f rfl rfl rfl) rfl ?_
            refine dr_done (by kernel_rfl) ?_
            refine ex_go ?_
            refine cd_if rfl (fun hb4 => ?_) (fun hb4 => ?_)
            · skip
              refine cd_seq ?_
              refine cd_region ?_
              refine at_pure (pv_assign rfl) rfl ?_
              refine at_nil ?_
              refine ex_go ?_
              refine cd_ret ?_
              refine ex_in_ret (ex_then_ret (ex_then_ret (ex_in_ret (ex_then_ret ?_))))
              exact end_ret1 rfl rfl (fun w hs => by first | exact Val.mk hs | (exfalso; clear hs; simp only [decide_eq_true_eq] at *; omega))
            · skip
              refine cd_skip ?_
              refine ex_in_normal (ex_go ?_)
              refine cd_region ?_
              refine at_pure (pv_move rfl) rfl ?_
              refine at_pure (by first | exact pv_add_n rfl rfl (by unfold In64; omega) | exact pv_add rfl rfl) rfl ?_
              refine at_pure (pv_assign rfl) rfl ?_
              refine at_nil ?_
              refine ex_round ?_
              refine cd_seq ?_
              refine cd_seq ?_
              refine cd_region ?_
              refine at_pure (pv_move rfl) rfl ?_
              refine at_pure (pv_lss rfl rfl) rfl ?_
              refine at_nil ?_
              refine ex_go ?_
              refine cd_then rfl (by decide) ?_
              refine cd_skip ?_
              refine ex_go ?_
              refine cd_seq ?_
              refine cd_block ?_
              refine cd_seq ?_
              refine cd_region ?_
              refine at_pure (by exact pv_loads_box ag_54 rfl .z (.take (.take (.take (.take (.take (.take (.take .done)))))))) rfl ?_
              refine at_does (does_alloc ze_54 .agg (fun _ => (.cons (.cons (.cons (.cons (.cons (.cons (.cons (.cons .nil)))))))))) rfl (fun g17 => ?_)
              refine at_turns (by exact turns_store sz_54 rfl rfl .agg rfl rfl (.s (.s (.s (.s (.s (.s (.s (.s .z)))))))) (.rep (.rep (.rep (.rep (.rep (.rep (.rep .done))))))) (.s (.s (.s (.s (.s (.s (.s (.s .z))))))))) ?_
              refine at_nil ?_
              refine ex_go ?_
              refine cd_seq ?_
              refine cd_seq ?_
              refine cd_region ?_
              refine at_pure (pv_move rfl) rfl ?_
              refine at_nil ?_
              refine ex_go ?_
              refine cd_block ?_
              refine cd_seq ?_
              refine cd_region ?_
              refine at_pure (pv_eql rfl rfl) rfl ?_
              refine at_pure (pv_assign rfl) rfl ?_
              refine at_nil ?_
              refine ex_go ?_
              refine cd_else rfl (by decide) ?_
              refine cd_seq ?_
              refine cd_region ?_
              refine at_pure (pv_eql rfl rfl) rfl ?_
              refine at_pure (pv_assign rfl) rfl ?_
              refine at_nil ?_
              refine ex_go ?_
              refine cd_else rfl (by decide) ?_
              refine cd_seq ?_
              refine cd_region ?_
              refine at_pure (pv_eql rfl rfl) rfl ?_
              refine at_pure (pv_assign rfl) rfl ?_
              refine at_nil ?_
              refine ex_go ?_
              refine cd_else rfl (by decide) ?_
              refine cd_region ?_
              refine at_pure (pv_field0 fa_54_4 rfl (r := 4) rfl) rfl ?_
              refine at_pure (by exact pv_load ld_3 rfl (box_cell (.s (.s (.s (.s (.s (.s (.s (.s .z)))))))) (.s (.s (.s (.s .z)))))) rfl ?_
              refine at_pure (pv_move rfl) rfl ?_
              refine at_pure (pv_conv us_5 Try.underlying3 rfl (by rw [wrap_i64, wrap64_in (by unfold In64; omega)])) rfl ?_
              refine at_pure (by first | exact pv_add_n rfl rfl (by unfold In64; omega) | exact pv_add rfl rfl) rfl ?_
              refine at_pure (pv_field0 fa_54_4 rfl (r := 4) rfl) rfl ?_
              refine at_turns (by exact turns_store sz_3 rfl rfl (.one rfl) rfl rfl (.s (.s (.s (.s (.s (.s (.s (.s .z)))))))) (.skip (.skip (.skip (.skip (.rep .done))))) (.s (.s (.s (.s (.s (.s (.s (.s .z))))))))) ?_
              refine at_nil ?_
              refine ex_in_normal (ex_go ?_)
              refine cd_seq ?_
              refine cd_region ?_
              refine at_pure (by exact pv_loads_box ag_54 rfl (.s (.s (.s (.s (.s (.s (.s (.s .z)))))))) (.take (.take (.take (.take (.take (.take (.take .done)))))))) rfl ?_
              refine at_does (does_val cal24 rfl rfl rfl (fun w hs => of_ok (by omega) (by omega) (by omega) (by omega) (by omega) (by omega) (by omega) w)) rfl (fun _ => ?_)
              refine at_pure (pv_move rfl) rfl ?_
              refine at_pure (pv_extract rfl rfl) rfl ?_
              refine at_pure (pv_extract rfl rfl) rfl ?_
              refine at_does (does_alloc ze_56 .agg (fun _ => (.cons (.cons (.cons (.cons (.cons (.cons (.cons (.cons (.cons .nil))))))))))) rfl (fun g18 => ?_)
              refine at_turns (by exact turns_store sz_56 rfl rfl .agg rfl rfl (.s (.s (.s (.s (.s (.s (.s (.s (.s .z))))))))) (.rep (.rep (.rep (.rep (.rep .done))))) (.s (.s (.s (.s (.s (.s (.s (.s (.s .z)))))))))) ?_
              refine at_pure (pv_assign rfl) rfl ?_
              refine at_nil ?_
              refine ex_go ?_
              refine cd_seq ?_
              refine cd_draw' 9 follows ?_
              refine dr_take 0 rfl (by kernel_rfl) (by first | exact List.Sublist.refl _ | (repeat first | exact List.Sublist.slnil | exact List.nil_sublist _ | apply List.Sublist.cons_cons | apply List.Sublist.cons)) (pv_move rfl) rfl ?_
              refine dr_take 1 rfl (by kernel_rfl) (by first | exact List.Sublist.refl _ | (repeat first | exact List.Sublist.slnil | exact List.nil_sublist _ | apply List.Sublist.cons_cons | apply List.Sublist.cons)) (pv_neq_same rfl rfl) rfl ?_
              refine dr_take 2 rfl (by kernel_rfl) (by first | exact List.Sublist.refl _ | (repeat first | exact List.Sublist.slnil | exact List.nil_sublist _ | apply List.Sublist.cons_cons | apply List.Sublist.cons)) (pv_move rfl) rfl ?_
              refine dr_take_g 3 rfl rfl rfl rfl (by kernel_rfl) (by first | exact List.Sublist.refl _ | (repeat first | exact List.Sublist.slnil | exact List.nil_sublist _ | apply List.Sublist.cons_cons | apply List.Sublist.cons)) (by exact pv_loads_box ag_56 rfl (.s (.s (.s (.s (.s (.s (.s (.s (.s .z))))))))) (.take (.take (.take (.take (.take .done)))))) rfl ?_
              refine dr_take_g 5 rfl rfl rfl rfl (by kernel_rfl) (by first | exact List.Sublist.refl _ | (repeat first | exact List.Sublist.slnil | exact List.nil_sublist _ | apply List.Sublist.cons_cons | apply List.Sublist.cons)) (by exact pv_loads_box ag_56 rfl (.s .z) (.take (.take (.take (.take (.take .done)))))) rfl ?_
              refine dr_one 4 (by kernel_rfl) rfl ?_
              refine at_does_g rfl rfl rfl (does_val cal25 rfl rfl rfl (fun w hs => total_ok (by omega) (by omega) (by omega) (by omega) (by omega) w)) rfl (fun _ => ?_)
              refine at_nil (dr_next (fun _ => (by first | exact List.Sublist.refl _ | (repeat first | exact List.Sublist.slnil | exact List.nil_sublist _ | apply List.Sublist.cons_cons | apply List.Sublist.cons))) ?_)
              refine dr_one 6 (by kernel_rfl) rfl ?_
              refine at_does_g rfl rfl rfl (does_val cal25 rfl rfl rfl (fun w hs => total_ok (by omega) (by omega) (by omega) (by omega) (by omega) w)) rfl (fun _ => ?_)
              refine at_nil (dr_next (fun _ => (by first | exact List.Sublist.refl _ | (repeat first | exact List.Sublist.slnil | exact List.nil_sublist _ | apply List.Sublist.cons_cons | apply List.Sublist.cons))) ?_)
              refine dr_take_g 7 rfl rfl rfl rfl (by kernel_rfl) (by first | exact List.Sublist.refl _ | (repeat first | exact List.Sublist.slnil | exact List.nil_sublist _ | apply List.Sublist.cons_cons | apply List.Sublist.cons)) (pv_lss rfl rfl) rfl ?_
              refine dr_take 8 rfl (by kernel_rfl) (by first | exact List.Sublist.refl _ | (repeat first | exact List.Sublist.slnil | exact List.nil_sublist _ | apply List.Sublist.cons_cons | apply List.Sublist.cons)) (pv_pick_f rfl rfl rfl) rfl ?_
              refine dr_done (by kernel_rfl) ?_
              refine ex_go ?_
              refine cd_if rfl (fun hb5 => ?_) (fun hb5 => ?_)
              · skip
                refine cd_seq ?_
                refine cd_region ?_
                refine at_pure (pv_assign rfl) rfl ?_
                refine at_nil ?_
                refine ex_go ?_
                refine cd_ret ?_
                refine ex_in_ret (ex_then_ret (ex_then_ret (ex_in_ret (ex_then_ret ?_))))
                exact end_ret1 rfl rfl (fun w hs => by first | exact Val.mk hs | (exfalso; clear hs; simp only [decide_eq_true_eq] at *; omega))
              · skip
                refine cd_skip ?_
                refine ex_in_normal (ex_go ?_)
                refine cd_region ?_
                refine at_pure (pv_move rfl) rfl ?_
                refine at_pure (by first | exact pv_add_n rfl rfl (by unfold In64; omega) | exact pv_add rfl rfl) rfl ?_
                refine at_pure (pv_assign rfl) rfl ?_
                refine at_nil ?_
                refine ex_round ?_
                refine cd_seq ?_
                refine cd_seq ?_
                refine cd_region ?_
                refine at_pure (pv_move rfl) rfl ?_
                refine at_pure (pv_lss rfl rfl) rfl ?_
                refine at_nil ?_
                refine ex_go ?_
                refine cd_else rfl (by decide) ?_
                refine cd_exit ?_
                refine ex_then_exit (ex_then_exit (ex_in ?_))
                exact ex_meet () trivial ⟨rfl, trivial⟩ (List.nil_sublist _)
      · rintro ⟨⟩ -
        refine cd_seq ?_
        refine cd_region ?_
        refine at_pure (pv_move rfl) rfl ?_
        refine at_does (does_gives (X := Nat) (val := fun g => Value.pointer (some ⟨g, 0, none⟩)) (Δ := fun g => [Box g [.slice a0 len0 cap0, .int .i64 0] 76]) cal12 rfl rfl rfl (fun w hs => by have h9 := deck_new a0 len0 cap0 w; exact h9) (fun _ => .nil)) rfl (fun gd => ?_)
        refine at_mades (does_mades (X := MZ) (val := fun z => .tuple #[.agg #[.slice z.an z.ns.length z.cn, .slice z.al z.ls.length z.cl], .slice z.ac z.cs.length z.cc]) (Δ := fun z => [RowP enc4 4 70 z.an z.cn z.ns, RowP enc4 4 61 z.al z.cl z.ls, RowP enc1 1 3 z.ac z.cc z.cs]) (good := MillOk) cal11 rfl rfl rfl .z (fun w hs => by have h9 := graph_any gd a0 len0 cap0 0 w (hs.box (i := 0) rfl) (hI.beside hs .z) (by omega) hlen; exact h9) (fun _ => rfl)) rfl (fun z hz => ?_)
        refine at_pure (pv_move rfl) rfl ?_
        refine at_pure (pv_extract rfl rfl) rfl ?_
        refine at_pure (pv_extract rfl rfl) rfl ?_
        refine at_does (does_alloc ze_28 .agg (fun _ => (.cons (.cons (.cons .nil))))) rfl (fun g14 => ?_)
        refine at_turns (by exact turns_store sz_28 rfl rfl .agg rfl rfl (.s (.s (.s .z))) (.rep (.rep .done)) (.s (.s (.s .z)))) ?_
        refine At.know (fun w hs => (hs.rows len4 (by decide) (.s .z)).real) (fun hreal => ?_)
        refine At.know (fun w hs => (hs.rows len1 (by decide) (.s (.s .z))).real) (fun hreal2 => ?_)
        have hlok := mill_lonOk hz
        have hl12 := hz.l12
        have hn8 := hz.n8
        have hcl := hz.clen
        refine at_pure (pv_assign rfl) rfl ?_
        refine at_nil ?_
        refine ex_go ?_
        refine cd_seq ?_
        refine cd_seq ?_
        refine cd_region ?_
        refine at_pure (pv_field0 fa_28_1 rfl (r := 1) rfl) rfl ?_
        refine at_pure (by exact pv_load ld_26 rfl (box_cell (.s (.s (.s .z))) (.s .z))) rfl ?_
        refine at_pure (pv_len Try.underlying26 rfl) rfl ?_
        refine at_pure (pv_move rfl) rfl ?_
        refine at_nil ?_
        refine ex_go ?_
        refine cd_block ?_
        refine cd_loop (σ := Nat) (fun s => [(14, Value.pointer (some ⟨g14, 0, none⟩)), (15, .slice z.ac z.cs.length z.cc), (122, .slice z.al z.ls.length z.cl), (123, .int .i64 z.ls.length), (124, .int .i64 (s : Int))]) (fun s => [RowP enc4 4 70 z.an z.cn z.ns, RowP enc4 4 61 z.al z.cl z.ls, RowP enc1 1 3 z.ac z.cc z.cs, Box g14 [.slice z.an z.ns.length z.cn, .slice z.al z.ls.length z.cl] 28]) (fun s => s ≤ z.ls.length) (fun s => z.ls.length - s) 0 (Nat.zero_le _) ⟨rfl, rfl, rfl, rfl, rfl, trivial⟩ (by repeat first | exact List.nil_sublist _ | apply List.Sublist.cons_cons | apply List.Sublist.cons) ?_
        rintro k hk
        refine cd_seq ?_
        refine cd_region ?_
        refine at_pure (pv_lss rfl rfl) rfl ?_
        refine at_nil ?_
        refine ex_go ?_
        refine cd_seq ?_
        refine cd_if rfl (fun hb6 => ?_) (fun hb6 => ?_)
        · skip
          refine cd_skip ?_
          refine ex_go ?_
          refine cd_seq ?_
          refine cd_block ?_
          refine cd_seq ?_
          have hkl : k < z.ls.length := by simp only [decide_eq_true_eq] at *; omega
          obtain ⟨y, hy⟩ := get_of hkl
          have hym := List.mem_of_getElem? hy
          have hlk := lon_link hlok hym
          have hpe := ports_ends (((valid_iff _ _).1 hz.valid).port y hym)
          have hp1 := place_in hpe.1
          have hp2 := place_in hpe.2
          have hc1 := at1_get (xs := z.cs) (k := (placeI z.ns y.1).toNat) (by omega)
          have hc2 := at1_get (xs := z.cs) (k := (placeI z.ns y.2.2.1).toNat) (by omega)
          have hcb : ∀ x ∈ z.cs, 0 ≤ x ∧ x ≤ 12 := fun x hx => by have := hz.cost x hx; omega
          have hb1 := at1_bound (k := (placeI z.ns y.1).toNat) hcb (by omega)
          have hb2 := at1_bound (k := (placeI z.ns y.2.2.1).toNat) hcb (by omega)
          refine cd_region ?_
          refine at_pure (pv_ix Try.underlying26 cz_61 rfl rfl (by first | omega | (simp only [decide_eq_true_eq] at *; omega)) hreal (k := k) (by omega)) rfl ?_
          refine at_pure (pv_elems ag_61 rfl (RowP.gets len4 (by decide) (.s .z) hy) rfl) rfl ?_
          refine at_does (does_alloc ze_61 .agg (fun _ => (.cons (.cons (.cons (.cons .nil)))))) rfl (fun g20 => ?_)
          refine at_turns (by exact turns_store sz_61 rfl rfl .agg rfl rfl (.s (.s (.s (.s .z)))) (.rep (.rep (.rep (.rep .done)))) (.s (.s (.s (.s .z))))) ?_
          refine at_nil ?_
          refine ex_go ?_
          refine cd_seq ?_
          refine cd_region ?_
          refine at_pure (by exact pv_loads_box ag_28 rfl (.s (.s (.s .z))) (.take (.take .done))) rfl ?_
          refine at_pure (pv_move rfl) rfl ?_
          refine at_pure (pv_field0 fa_61_0 rfl (r := 0) rfl) rfl ?_
          refine at_pure (by exact pv_load ld_3 rfl (box_cell (.s (.s (.s (.s .z)))) .z)) rfl ?_
          refine at_pure (pv_field0 fa_61_2 rfl (r := 2) rfl) rfl ?_
          refine at_pure (by exact pv_load ld_3 rfl (box_cell (.s (.s (.s (.s .z)))) (.s (.s .z)))) rfl ?_
          refine at_does (does_val cal22 rfl rfl rfl (fun w hs => longest_go z.an z.al z.cn z.cl z.ns z.ls z.ac z.cc z.cs y.1 y.2.2.1 w (hs.rows len4 (by decide) .z) (hs.rows len4 (by decide) (.s .z)) (hs.rows len1 (by decide) (.s (.s .z))))) rfl (fun _ => ?_)
          refine at_pure (pv_move rfl) rfl ?_
          refine at_pure (pv_extract rfl rfl) rfl ?_
          refine at_pure (pv_extract rfl rfl) rfl ?_
          refine at_pure (pv_assign rfl) rfl ?_
          refine at_pure (pv_assign rfl) rfl ?_
          refine at_nil ?_
          refine ex_go ?_
          refine cd_seq ?_
          refine cd_draw' 21 follows ?_
          refine dr_take 0 rfl (by kernel_rfl) (by first | exact List.Sublist.refl _ | (repeat first | exact List.Sublist.slnil | exact List.nil_sublist _ | apply List.Sublist.cons_cons | apply List.Sublist.cons)) (pv_move rfl) rfl ?_
          refine dr_take 1 rfl (by kernel_rfl) (by first | exact List.Sublist.refl _ | (repeat first | exact List.Sublist.slnil | exact List.nil_sublist _ | apply List.Sublist.cons_cons | apply List.Sublist.cons)) (pv_neq rfl rfl) rfl ?_
          refine dr_take 2 rfl (by kernel_rfl) (by first | exact List.Sublist.refl _ | (repeat first | exact List.Sublist.slnil | exact List.nil_sublist _ | apply List.Sublist.cons_cons | apply List.Sublist.cons)) (pv_move rfl) rfl ?_
          refine dr_take_g 3 rfl rfl rfl (by rw [hlk.1]; rfl) (by kernel_rfl) (by first | exact List.Sublist.refl _ | (repeat first | exact List.Sublist.slnil | exact List.nil_sublist _ | apply List.Sublist.cons_cons | apply List.Sublist.cons)) (pv_move rfl) rfl ?_
          refine dr_take_g 4 rfl rfl rfl (by rw [hlk.1]; rfl) (by kernel_rfl) (by first | exact List.Sublist.refl _ | (repeat first | exact List.Sublist.slnil | exact List.nil_sublist _ | apply List.Sublist.cons_cons | apply List.Sublist.cons)) (pv_move rfl) rfl ?_
          refine dr_take_g 5 rfl rfl rfl (by rw [hlk.1]; rfl) (by kernel_rfl) (by first | exact List.Sublist.refl _ | (repeat first | exact List.Sublist.slnil | exact List.nil_sublist _ | apply List.Sublist.cons_cons | apply List.Sublist.cons)) (by exact pv_loads_box ag_28 rfl (.s (.s (.s .z))) (.take (.take .done))) rfl ?_
          refine dr_take_g 6 rfl rfl rfl (by rw [hlk.1]; rfl) (by kernel_rfl) (by first | exact List.Sublist.refl _ | (repeat first | exact List.Sublist.slnil | exact List.nil_sublist _ | apply List.Sublist.cons_cons | apply List.Sublist.cons)) (pv_field0 fa_61_0 rfl (r := 0) rfl) rfl ?_
          refine dr_take_g 7 rfl rfl rfl (by rw [hlk.1]; rfl) (by kernel_rfl) (by first | exact List.Sublist.refl _ | (repeat first | exact List.Sublist.slnil | exact List.nil_sublist _ | apply List.Sublist.cons_cons | apply List.Sublist.cons)) (by exact pv_load ld_3 rfl (box_cell (.s (.s (.s (.s .z)))) .z)) rfl ?_
          refine dr_take_g 11 rfl rfl rfl (by rw [hlk.1]; rfl) (by kernel_rfl) (by first | exact List.Sublist.refl _ | (repeat first | exact List.Sublist.slnil | exact List.nil_sublist _ | apply List.Sublist.cons_cons | apply List.Sublist.cons)) (pv_move rfl) rfl ?_
          refine dr_take_g 12 rfl rfl rfl (by rw [hlk.1]; rfl) (by kernel_rfl) (by first | exact List.Sublist.refl _ | (repeat first | exact List.Sublist.slnil | exact List.nil_sublist _ | apply List.Sublist.cons_cons | apply List.Sublist.cons)) (by exact pv_loads_box ag_28 rfl (.s (.s (.s .z))) (.take (.take .done))) rfl ?_
          refine dr_take_g 13 rfl rfl rfl (by rw [hlk.1]; rfl) (by kernel_rfl) (by first | exact List.Sublist.refl _ | (repeat first | exact List.Sublist.slnil | exact List.nil_sublist _ | apply List.Sublist.cons_cons | apply List.Sublist.cons)) (pv_field0 fa_61_2 rfl (r := 2) rfl) rfl ?_
          refine dr_take_g 14 rfl rfl rfl (by rw [hlk.1]; rfl) (by kernel_rfl) (by first | exact List.Sublist.refl _ | (repeat first | exact List.Sublist.slnil | exact List.nil_sublist _ | apply List.Sublist.cons_cons | apply List.Sublist.cons)) (by exact pv_load ld_3 rfl (box_cell (.s (.s (.s (.s .z)))) (.s (.s .z)))) rfl ?_
          refine dr_one 8 (by kernel_rfl) rfl ?_
          refine at_does_g rfl rfl (by rw [hlk.1]; rfl) (does_val cal26 rfl rfl rfl (fun w hs => place_law_in z.an z.al z.cn z.cl w (hs.rows len4 (by decide) .z) (hs.rows len4 (by decide) (.s .z)) hpe.1)) rfl (fun _ => ?_)
          refine at_nil (dr_next (fun _ => (by first | exact List.Sublist.refl _ | (repeat first | exact List.Sublist.slnil | exact List.nil_sublist _ | apply List.Sublist.cons_cons | apply List.Sublist.cons))) ?_)
          refine dr_take_g 9 rfl rfl rfl (by rw [hlk.1]; rfl) (by kernel_rfl) (by first | exact List.Sublist.refl _ | (repeat first | exact List.Sublist.slnil | exact List.nil_sublist _ | apply List.Sublist.cons_cons | apply List.Sublist.cons)) (pv_ix Try.underlying22 cz_3 rfl rfl (by first | omega | (simp only [decide_eq_true_eq] at *; omega)) hreal2 (k := (placeI z.ns y.1).toNat) (by omega)) rfl ?_
          refine dr_take_g 10 rfl rfl rfl (by rw [hlk.1]; rfl) (by kernel_rfl) (by first | exact List.Sublist.refl _ | (repeat first | exact List.Sublist.slnil | exact List.nil_sublist _ | apply List.Sublist.cons_cons | apply List.Sublist.cons)) (pv_elem0 ld_3 rfl (RowP.get len1 (by decide) (.s (.s .z)) hc1 .z)) rfl ?_
          refine dr_one 15 (by kernel_rfl) rfl ?_
          refine at_does_g rfl rfl (by rw [hlk.1]; rfl) (does_val cal26 rfl rfl rfl (fun w hs => place_law_in z.an z.al z.cn z.cl w (hs.rows len4 (by decide) .z) (hs.rows len4 (by decide) (.s .z)) hpe.2)) rfl (fun _ => ?_)
          refine at_nil (dr_next (fun _ => (by first | exact List.Sublist.refl _ | (repeat first | exact List.Sublist.slnil | exact List.nil_sublist _ | apply List.Sublist.cons_cons | apply List.Sublist.cons))) ?_)
          refine dr_take_g 16 rfl rfl rfl (by rw [hlk.1]; rfl) (by kernel_rfl) (by first | exact List.Sublist.refl _ | (repeat first | exact List.Sublist.slnil | exact List.nil_sublist _ | apply List.Sublist.cons_cons | apply List.Sublist.cons)) (pv_ix Try.underlying22 cz_3 rfl rfl (by first | omega | (simp only [decide_eq_true_eq] at *; omega)) hreal2 (k := (placeI z.ns y.2.2.1).toNat) (by omega)) rfl ?_
          refine dr_take_g 17 rfl rfl rfl (by rw [hlk.1]; rfl) (by kernel_rfl) (by first | exact List.Sublist.refl _ | (repeat first | exact List.Sublist.slnil | exact List.nil_sublist _ | apply List.Sublist.cons_cons | apply List.Sublist.cons)) (pv_elem0 ld_3 rfl (RowP.get len1 (by decide) (.s (.s .z)) hc2 .z)) rfl ?_
          refine dr_take_g 18 rfl rfl rfl (by rw [hlk.1]; rfl) (by kernel_rfl) (by first | exact List.Sublist.refl _ | (repeat first | exact List.Sublist.slnil | exact List.nil_sublist _ | apply List.Sublist.cons_cons | apply List.Sublist.cons)) (by first | exact pv_add_n rfl rfl (by unfold In64; omega) | exact pv_add rfl rfl) rfl ?_
          refine dr_take_g 19 rfl rfl rfl (by rw [hlk.1]; rfl) (by kernel_rfl) (by first | exact List.Sublist.refl _ | (repeat first | exact List.Sublist.slnil | exact List.nil_sublist _ | apply List.Sublist.cons_cons | apply List.Sublist.cons)) (pv_lss rfl rfl) rfl ?_
          refine dr_take 20 rfl (by kernel_rfl) (by first | exact List.Sublist.refl _ | (repeat first | exact List.Sublist.slnil | exact List.nil_sublist _ | apply List.Sublist.cons_cons | apply List.Sublist.cons)) (pv_pick_f rfl (by rw [hlk.1]; rfl) rfl) rfl ?_
          refine dr_done (by kernel_rfl) ?_
          refine ex_go ?_
          refine cd_if rfl (fun hb7 => ?_) (fun hb7 => ?_)
          · skip
            refine cd_seq ?_
            refine cd_region ?_
            refine at_pure (pv_assign rfl) rfl ?_
            refine at_nil ?_
            refine ex_go ?_
            refine cd_ret ?_
            refine ex_in_ret (ex_then_ret (ex_then_ret (ex_in_ret (ex_then_ret ?_))))
            exact end_ret1 rfl rfl (fun w hs => by first | exact Val.mk hs | (exfalso; clear hs; simp only [decide_eq_true_eq] at *; omega))
          · skip
            refine cd_skip ?_
            refine ex_in_normal (ex_go ?_)
            refine cd_region ?_
            refine at_pure (by first | exact pv_add_n rfl rfl (by unfold In64; omega) | exact pv_add rfl rfl) rfl ?_
            refine at_pure (pv_move rfl) rfl ?_
            refine at_nil ?_
            exact ex_meet (k + 1) ⟨by omega, by omega⟩ ⟨rfl, rfl, rfl, rfl, rfl, trivial⟩ (by repeat first | exact List.nil_sublist _ | apply List.Sublist.cons_cons | apply List.Sublist.cons)
        · skip
          refine cd_exit ?_
          refine ex_then_exit (ex_then_exit (ex_in (ex_go ?_)))
          refine cd_seq ?_
          refine cd_region ?_
          refine at_pure (pv_assign rfl) rfl ?_
          refine at_nil ?_
          refine ex_go ?_
          refine cd_ret ?_
          exact end_ret1 rfl rfl (fun w hs => by first | exact Val.mk hs | (exfalso; clear hs; simp only [decide_eq_true_eq] at *; omega))

end Go.Proofs.Ytkejdfnpbkdllaa
