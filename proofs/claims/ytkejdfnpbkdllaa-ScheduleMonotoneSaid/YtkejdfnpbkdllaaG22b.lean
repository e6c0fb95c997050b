/- Adding a node, a link: the reference. -/
import Derived.Test.YtkejdfnpbkdllaaF25
import Derived.Test.YtkejdfnpbkdllaaG22
set_option linter.unusedVariables false
set_option linter.unusedSimpArgs false
set_option maxRecDepth 20000
namespace Go.Proofs.Ytkejdfnpbkdllaa
open Go Go.RowKit Go.Proofs.YtkejdfnpbkdllaaV
theorem valid_facts {ns ls : List Q4} (h : validS ns ls = true) : ns.length ≤ 64 ∧ ls.length ≤ 256 ∧ (∀ j, j < ns.length → nodeOkAt ns j = true) ∧ (∀ j, j < ls.length → linkOkAt ns ls j = true) ∧ (orderS ns ls).length = ns.length := by
  unfold validS nodesOk linksOk at h
  simp only [Bool.and_eq_true, decide_eq_true_eq, List.all_eq_true, List.mem_range, beq_iff_eq] at h
  obtain ⟨⟨⟨⟨h1, h2⟩, h3⟩, h4⟩, h5⟩ := h
  exact ⟨by omega, by omega, h3, h4, by omega⟩
def ordO (ns ls : List Q4) : List Int := bif validS ns ls then orderS ns ls else []

theorem order2_ref (a b : Option Addr) (ca cb : Nat) (ns ls : List Q4) (w : World) (hn : Sl [] enc4 4 w a ca ns) (hl : Sl [] enc4 4 w b cb ls) : Calls Try.prog 38 [.agg #[.slice a ns.length ca, .slice b ls.length cb]].toArray w (Gives (fun z : Option Addr × Nat => .tuple #[.slice z.1 (ordO ns ls).length z.2, .int .i64 (bif validS ns ls then 0 else 1)]) (fun z => [RowP enc1 1 3 z.1 z.2 (ordO ns ls)]) w) := by
  refine calls_body (n := 9) Try.func38 rfl rfl rfl (St.init _ []) ?_
  refine cd_seq ?_
  refine cd_region ?_
  refine at_does (does_box rfl .agg (fun _ => .nil)) rfl (fun g1 => ?_)
  refine at_pure (pv_assign rfl) rfl ?_
  refine at_pure (pv_assign rfl) rfl ?_
  refine at_nil ?_
  refine ex_go ?_
  refine cd_seq ?_
  refine cd_seq ?_
  refine cd_region ?_
  refine at_pure (by exact pv_loads_box ag_28 rfl .z (.take (.take .done))) rfl ?_
  refine at_does (does_val cal58 rfl rfl rfl (fun w hs => valid_ref _ _ _ _ _ _ w (hn.at' hs) (hl.at' hs))) rfl (fun _ => ?_)
  refine at_pure (pv_not rfl) rfl ?_
  refine at_nil ?_
  refine ex_go ?_
  refine cd_if rfl (fun hb1 => ?_) (fun hb1 => ?_)
  · skip
    refine cd_seq ?_
    refine Cd.addNil 3 enc1 1 (.cons .nil) ?_
    refine cd_region ?_
    refine at_pure (pv_assign rfl) rfl ?_
    refine at_pure (pv_assign rfl) rfl ?_
    refine at_nil ?_
    refine ex_go ?_
    refine cd_ret ?_
    refine ex_then_ret ?_
    exact end_ret2 rfl rfl rfl (fun w hs => by first | (have hv : validS ns ls = false := (by simpa using hb1); unfold ordO; exact Gives.mk' (none, 0) (by rw [hv]; rfl) (by rw [hv]; repeat first | exact sLn _ | apply sLc | apply sLd) hs) | (unfold ordO; exact Gives.mk' z9 (by rw [hv]; rfl) (by rw [hv]; repeat first | exact sLn _ | apply sLc | apply sLd) hs))
  · skip
    refine cd_skip ?_
    refine ex_go ?_
    refine cd_seq ?_
    have hv : validS ns ls = true := by simpa using hb1
    have hvf := valid_facts hv
    refine cd_region ?_
    refine at_pure (by exact pv_loads_box ag_28 rfl .z (.take (.take .done))) rfl ?_
    refine at_does (does_gives (X := Option Addr × Nat) (val := fun z => .slice z.1 (orderS ns ls).length z.2) (Δ := fun z => [RowP enc1 1 3 z.1 z.2 (orderS ns ls)]) cal69 rfl rfl rfl (fun w hs => by have h9 := order_ref a b ca cb ns ls w (hn.at' hs) (hl.at' hs) hvf.1 (pos_of hvf.2.2.1); exact h9) (fun _ => (.cons .nil))) rfl (fun z9 => ?_)
    refine at_pure (pv_assign rfl) rfl ?_
    refine at_pure (pv_assign rfl) rfl ?_
    refine at_nil ?_
    refine ex_go ?_
    refine cd_ret ?_
    exact end_ret2 rfl rfl rfl (fun w hs => by first | (have hv : validS ns ls = false := (by simpa using hb1); unfold ordO; exact Gives.mk' (none, 0) (by rw [hv]; rfl) (by rw [hv]; repeat first | exact sLn _ | apply sLc | apply sLd) hs) | (unfold ordO; exact Gives.mk' z9 (by rw [hv]; rfl) (by rw [hv]; repeat first | exact sLn _ | apply sLc | apply sLd) hs))

def insN : List Q4 → Q4 → List Q4
  | [], n => [n]
  | z :: zs, n => bif decide (z.1 < n.1) then z :: insN zs n else n :: z :: zs
def addErr (ns ls : List Q4) (n : Q4) : Int := bif !(validS ns ls && fits n) then 1 else bif hasN ns n.1 then 8 else bif decide (64 ≤ (ns.length : Int)) then 3 else 0
def addN (ns ls : List Q4) (n : Q4) : List Q4 := bif addErr ns ls n == 0 then insN ns n else []
def addL (ns ls : List Q4) (n : Q4) : List Q4 := bif addErr ns ls n == 0 then ls else []
theorem ins_stop {ns : List Q4} {n : Q4} {k : Nat} (h : insN ns n = ns.take k ++ insN (ns.drop k) n) (hs : ns.drop k = [] ∨ ∃ z, ns[k]? = some z ∧ ¬ z.1 < n.1) : ns.take k ++ [n] ++ ns.drop k = insN ns n := by
  rw [h, List.append_assoc]
  congr 1
  rcases hs with e | ⟨z, hz, hlt⟩
  · rw [e]; rfl
  · rw [drop_of hz]
    unfold insN
    rw [decide_eq_false hlt]; rfl
theorem ins_step {ns : List Q4} {n : Q4} {k : Nat} {z : Q4} (h : insN ns n = ns.take k ++ insN (ns.drop k) n) (hz : ns[k]? = some z) (hlt : z.1 < n.1) : insN ns n = ns.take (k + 1) ++ insN (ns.drop (k + 1)) n := by
  rw [h, drop_of hz]
  conv => lhs; unfold insN
  rw [decide_eq_true hlt]
  have e : ns.take (k + 1) = ns.take k ++ [z] := by
    rw [List.take_add_one, hz]; rfl
  rw [e, List.append_assoc]; rfl

set_option maxRecDepth 10000 in
set_option maxHeartbeats 2000000 in
theorem add_ref (a b : Option Addr) (ca cb : Nat) (ns ls : List Q4) (n : Q4) (w : World) (hn : Sl [] enc4 4 w a ca ns) (hl : Sl [] enc4 4 w b cb ls) : Calls Try.prog 35 [.agg #[.slice a ns.length ca, .slice b ls.length cb], .agg #[.int .i64 n.1, .int .i64 n.2.1, .int .i64 n.2.2.1, .int .i64 n.2.2.2]].toArray w (Gives (fun z : (Option Addr × Nat) × (Option Addr × Nat) => .tuple #[.agg #[.slice z.1.1 (addN ns ls n).length z.1.2, .slice z.2.1 (addL ns ls n).length z.2.2], .int .i64 (addErr ns ls n)]) (fun z => [RowP enc4 4 70 z.1.1 z.1.2 (addN ns ls n), RowP enc4 4 61 z.2.1 z.2.2 (addL ns ls n)]) w) := by
  refine calls_body (n := 69) Try.func35 rfl rfl rfl (St.init _ []) ?_
  refine cd_seq ?_
  refine cd_region ?_
  refine at_does (does_box rfl .agg (fun _ => .nil)) rfl (fun g1 => ?_)
  refine at_does (does_box rfl .agg (fun _ => (.cons .nil))) rfl (fun g2 => ?_)
  refine at_does (does_alloc ze_28 .agg (fun _ => (.cons (.cons .nil)))) rfl (fun g3 => ?_)
  refine at_pure (pv_assign rfl) rfl ?_
  refine at_nil ?_
  refine ex_go ?_
  refine cd_seq ?_
  refine cd_seq ?_
  refine cd_region ?_
  refine at_pure (by exact pv_loads_box ag_28 rfl .z (.take (.take .done))) rfl ?_
  refine at_does (does_val cal58 rfl rfl rfl (fun w hs => valid_ref _ _ _ _ _ _ w (hn.at' hs) (hl.at' hs))) rfl (fun _ => ?_)
  refine at_pure (pv_not rfl) rfl ?_
  refine at_pure (pv_move rfl) rfl ?_
  refine at_split 13 rfl (fun hb1 => ?_) (fun hb1 => ?_)
  · skip
    refine at_skip rfl rfl hb1 rfl ?_
    refine at_skip rfl rfl hb1 rfl ?_
    refine at_skip rfl rfl hb1 rfl ?_
    refine at_pure (pv_pick_t rfl hb1 rfl) rfl ?_
    refine at_nil ?_
    refine ex_go ?_
    refine cd_then rfl rfl ?_
    refine cd_seq ?_
    refine Cd.addNil 70 enc4 4 (.cons (.cons (.cons .nil))) ?_
    refine Cd.addNil 61 enc4 4 (.cons (.cons (.cons (.cons .nil)))) ?_
    refine cd_region ?_
    refine at_pure (pv_build rfl (bu_28_)) rfl ?_
    refine at_turns (by exact turns_store sz_28 rfl rfl .agg rfl rfl (.s (.s .z)) (.rep (.rep .done)) (.s (.s .z))) ?_
    refine at_pure (pv_assign rfl) rfl ?_
    refine at_nil ?_
    refine ex_go ?_
    refine cd_ret ?_
    refine ex_then_ret ?_
    exact end_ct rfl (by exact Lies.box ag_28 rfl (.s (.s .z)) rfl) rfl (fun w hs => by first | (have he : addErr ns ls n = 1 := (by unfold addErr; rw [show validS ns ls = false by simpa using hb1]; rfl); have hN : addN ns ls n = [] := (by unfold addN; rw [he]; rfl); have hL : addL ns ls n = [] := (by unfold addL; rw [he]; rfl); exact Gives.mk' ((none, 0), (none, 0)) (by dsimp only; rw [hN, hL, he]; rfl) (by dsimp only; rw [hN, hL]; repeat first | exact sLn _ | apply sLc | apply sLd) hs) | (have he : addErr ns ls n = 1 := (by unfold addErr; rw [show fits n = false by simpa using hb2, Bool.and_false]; rfl); have hN : addN ns ls n = [] := (by unfold addN; rw [he]; rfl); have hL : addL ns ls n = [] := (by unfold addL; rw [he]; rfl); exact Gives.mk' ((none, 0), (none, 0)) (by dsimp only; rw [hN, hL, he]; rfl) (by dsimp only; rw [hN, hL]; repeat first | exact sLn _ | apply sLc | apply sLd) hs) | (have he : addErr ns ls n = 8 := (by unfold addErr; rw [hv, hf, hb3]; rfl); have hN : addN ns ls n = [] := (by unfold addN; rw [he]; rfl); have hL : addL ns ls n = [] := (by unfold addL; rw [he]; rfl); exact Gives.mk' ((none, 0), (none, 0)) (by dsimp only; rw [hN, hL, he]; rfl) (by dsimp only; rw [hN, hL]; repeat first | exact sLn _ | apply sLc | apply sLd) hs) | (have he : addErr ns ls n = 3 := (by unfold addErr; rw [hv, hf, hb3, hb4]; rfl); have hN : addN ns ls n = [] := (by unfold addN; rw [he]; rfl); have hL : addL ns ls n = [] := (by unfold addL; rw [he]; rfl); exact Gives.mk' ((none, 0), (none, 0)) (by dsimp only; rw [hN, hL, he]; rfl) (by dsimp only; rw [hN, hL]; repeat first | exact sLn _ | apply sLc | apply sLd) hs) | (have hN : addN ns ls n = ns.take k ++ [n] ++ ns.drop k := (by unfold addN; rw [he]; exact (ins_stop hq hst).symm); have hL : addL ns ls n = ls := (by unfold addL; rw [he]; rfl); exact Gives.mk' ((a3, c3), (a4, c4)) (by dsimp only; rw [hN, hL, he]; rfl) (by dsimp only; rw [hN, hL]; repeat first | exact sLn _ | apply sLc | apply sLd) hs))
  · skip
    refine at_pure_g rfl rfl hb1 (by exact pv_loads_box ag_70 rfl (.s .z) (.take (.take (.take (.take .done))))) rfl ?_
    refine at_does_g rfl rfl hb1 (does_val cal66 rfl rfl rfl (fun w hs => fits_ref _ w)) rfl (fun _ => ?_)
    refine at_pure_g rfl rfl hb1 (pv_not rfl) rfl ?_
    refine at_pure (pv_pick_f rfl hb1 rfl) rfl ?_
    refine at_nil ?_
    refine ex_go ?_
    refine cd_if rfl (fun hb2 => ?_) (fun hb2 => ?_)
    · skip
      refine cd_seq ?_
      refine Cd.addNil 70 enc4 4 (.cons (.cons (.cons .nil))) ?_
      refine Cd.addNil 61 enc4 4 (.cons (.cons (.cons (.cons .nil)))) ?_
      refine cd_region ?_
      refine at_pure (pv_build rfl (bu_28_)) rfl ?_
      refine at_turns (by exact turns_store sz_28 rfl rfl .agg rfl rfl (.s (.s .z)) (.rep (.rep .done)) (.s (.s .z))) ?_
      refine at_pure (pv_assign rfl) rfl ?_
      refine at_nil ?_
      refine ex_go ?_
      refine cd_ret ?_
      refine ex_then_ret ?_
      exact end_ct rfl (by exact Lies.box ag_28 rfl (.s (.s .z)) rfl) rfl (fun w hs => by first | (have he : addErr ns ls n = 1 := (by unfold addErr; rw [show validS ns ls = false by simpa using hb1]; rfl); have hN : addN ns ls n = [] := (by unfold addN; rw [he]; rfl); have hL : addL ns ls n = [] := (by unfold addL; rw [he]; rfl); exact Gives.mk' ((none, 0), (none, 0)) (by dsimp only; rw [hN, hL, he]; rfl) (by dsimp only; rw [hN, hL]; repeat first | exact sLn _ | apply sLc | apply sLd) hs) | (have he : addErr ns ls n = 1 := (by unfold addErr; rw [show fits n = false by simpa using hb2, Bool.and_false]; rfl); have hN : addN ns ls n = [] := (by unfold addN; rw [he]; rfl); have hL : addL ns ls n = [] := (by unfold addL; rw [he]; rfl); exact Gives.mk' ((none, 0), (none, 0)) (by dsimp only; rw [hN, hL, he]; rfl) (by dsimp only; rw [hN, hL]; repeat first | exact sLn _ | apply sLc | apply sLd) hs) | (have he : addErr ns ls n = 8 := (by unfold addErr; rw [hv, hf, hb3]; rfl); have hN : addN ns ls n = [] := (by unfold addN; rw [he]; rfl); have hL : addL ns ls n = [] := (by unfold addL; rw [he]; rfl); exact Gives.mk' ((none, 0), (none, 0)) (by dsimp only; rw [hN, hL, he]; rfl) (by dsimp only; rw [hN, hL]; repeat first | exact sLn _ | apply sLc | apply sLd) hs) | (have he : addErr ns ls n = 3 := (by unfold addErr; rw [hv, hf, hb3, hb4]; rfl); have hN : addN ns ls n = [] := (by unfold addN; rw [he]; rfl); have hL : addL ns ls n = [] := (by unfold addL; rw [he]; rfl); exact Gives.mk' ((none, 0), (none, 0)) (by dsimp only; rw [hN, hL, he]; rfl) (by dsimp only; rw [hN, hL]; repeat first | exact sLn _ | apply sLc | apply sLd) hs) | (have hN : addN ns ls n = ns.take k ++ [n] ++ ns.drop k := (by unfold addN; rw [he]; exact (ins_stop hq hst).symm); have hL : addL ns ls n = ls := (by unfold addL; rw [he]; rfl); exact Gives.mk' ((a3, c3), (a4, c4)) (by dsimp only; rw [hN, hL, he]; rfl) (by dsimp only; rw [hN, hL]; repeat first | exact sLn _ | apply sLc | apply sLd) hs))
    · skip
      refine cd_skip ?_
      refine ex_go ?_
      refine cd_seq ?_
      refine cd_seq ?_
      have hv : validS ns ls = true := by simpa using hb1
      have hf : fits n = true := by simpa using hb2
      have hvf := valid_facts hv
      refine cd_region ?_
      refine at_pure (by exact pv_loads_box ag_28 rfl .z (.take (.take .done))) rfl ?_
      refine at_pure (pv_field0 fa_70_0 rfl (r := 0) rfl) rfl ?_
      refine at_pure (by exact pv_load ld_3 rfl (box_cell (.s .z) .z)) rfl ?_
      refine at_does (does_val cal62 rfl rfl rfl (fun w hs => node_ref _ _ _ _ _ _ _ w (hn.at' hs) (hl.at' hs))) rfl (fun _ => ?_)
      refine at_pure (pv_move rfl) rfl ?_
      refine at_pure (pv_extract rfl rfl) rfl ?_
      refine at_pure (pv_extract rfl rfl) rfl ?_
      refine at_does (does_alloc ze_70 .agg (fun _ => (.cons (.cons (.cons .nil))))) rfl (fun g4 => ?_)
      refine at_turns (by exact turns_store sz_70 rfl rfl .agg rfl rfl (.s (.s (.s .z))) (.rep (.rep (.rep (.rep .done)))) (.s (.s (.s .z)))) ?_
      refine at_pure (pv_assign rfl) rfl ?_
      refine at_nil ?_
      refine ex_go ?_
      refine cd_seq ?_
      refine cd_region ?_
      refine at_pure (pv_move rfl) rfl ?_
      refine at_nil ?_
      refine ex_go ?_
      refine cd_if rfl (fun hb3 => ?_) (fun hb3 => ?_)
      · skip
        refine cd_seq ?_
        refine Cd.addNil 70 enc4 4 (.cons (.cons (.cons (.cons .nil)))) ?_
        refine Cd.addNil 61 enc4 4 (.cons (.cons (.cons (.cons (.cons .nil))))) ?_
        refine cd_region ?_
        refine at_pure (pv_build rfl (bu_28_)) rfl ?_
        refine at_turns (by exact turns_store sz_28 rfl rfl .agg rfl rfl (.s (.s .z)) (.rep (.rep .done)) (.s (.s .z))) ?_
        refine at_pure (pv_assign rfl) rfl ?_
        refine at_nil ?_
        refine ex_go ?_
        refine cd_ret ?_
        refine ex_then_ret ?_
        exact end_ct rfl (by exact Lies.box ag_28 rfl (.s (.s .z)) rfl) rfl (fun w hs => by first | (have he : addErr ns ls n = 1 := (by unfold addErr; rw [show validS ns ls = false by simpa using hb1]; rfl); have hN : addN ns ls n = [] := (by unfold addN; rw [he]; rfl); have hL : addL ns ls n = [] := (by unfold addL; rw [he]; rfl); exact Gives.mk' ((none, 0), (none, 0)) (by dsimp only; rw [hN, hL, he]; rfl) (by dsimp only; rw [hN, hL]; repeat first | exact sLn _ | apply sLc | apply sLd) hs) | (have he : addErr ns ls n = 1 := (by unfold addErr; rw [show fits n = false by simpa using hb2, Bool.and_false]; rfl); have hN : addN ns ls n = [] := (by unfold addN; rw [he]; rfl); have hL : addL ns ls n = [] := (by unfold addL; rw [he]; rfl); exact Gives.mk' ((none, 0), (none, 0)) (by dsimp only; rw [hN, hL, he]; rfl) (by dsimp only; rw [hN, hL]; repeat first | exact sLn _ | apply sLc | apply sLd) hs) | (have he : addErr ns ls n = 8 := (by unfold addErr; rw [hv, hf, hb3]; rfl); have hN : addN ns ls n = [] := (by unfold addN; rw [he]; rfl); have hL : addL ns ls n = [] := (by unfold addL; rw [he]; rfl); exact Gives.mk' ((none, 0), (none, 0)) (by dsimp only; rw [hN, hL, he]; rfl) (by dsimp only; rw [hN, hL]; repeat first | exact sLn _ | apply sLc | apply sLd) hs) | (have he : addErr ns ls n = 3 := (by unfold addErr; rw [hv, hf, hb3, hb4]; rfl); have hN : addN ns ls n = [] := (by unfold addN; rw [he]; rfl); have hL : addL ns ls n = [] := (by unfold addL; rw [he]; rfl); exact Gives.mk' ((none, 0), (none, 0)) (by dsimp only; rw [hN, hL, he]; rfl) (by dsimp only; rw [hN, hL]; repeat first | exact sLn _ | apply sLc | apply sLd) hs) | (have hN : addN ns ls n = ns.take k ++ [n] ++ ns.drop k := (by unfold addN; rw [he]; exact (ins_stop hq hst).symm); have hL : addL ns ls n = ls := (by unfold addL; rw [he]; rfl); exact Gives.mk' ((a3, c3), (a4, c4)) (by dsimp only; rw [hN, hL, he]; rfl) (by dsimp only; rw [hN, hL]; repeat first | exact sLn _ | apply sLc | apply sLd) hs))
      · skip
        refine cd_skip ?_
        refine ex_go ?_
        refine cd_seq ?_
        refine cd_seq ?_
        refine cd_region ?_
        refine at_pure (pv_field0 fa_28_0 rfl (r := 0) rfl) rfl ?_
        refine at_pure (by exact pv_load ld_25 rfl (box_cell .z .z)) rfl ?_
        refine at_pure (pv_len Try.underlying25 rfl) rfl ?_
        refine at_pure (pv_geq rfl rfl) rfl ?_
        refine at_nil ?_
        refine ex_go ?_
        refine cd_if rfl (fun hb4 => ?_) (fun hb4 => ?_)
        · skip
          refine cd_seq ?_
          refine Cd.addNil 70 enc4 4 (.cons (.cons (.cons (.cons .nil)))) ?_
          refine Cd.addNil 61 enc4 4 (.cons (.cons (.cons (.cons (.cons .nil))))) ?_
          refine cd_region ?_
          refine at_pure (pv_build rfl (bu_28_)) rfl ?_
          refine at_turns (by exact turns_store sz_28 rfl rfl .agg rfl rfl (.s (.s .z)) (.rep (.rep .done)) (.s (.s .z))) ?_
          refine at_pure (pv_assign rfl) rfl ?_
          refine at_nil ?_
          refine ex_go ?_
          refine cd_ret ?_
          refine ex_then_ret ?_
          exact end_ct rfl (by exact Lies.box ag_28 rfl (.s (.s .z)) rfl) rfl (fun w hs => by first | (have he : addErr ns ls n = 1 := (by unfold addErr; rw [show validS ns ls = false by simpa using hb1]; rfl); have hN : addN ns ls n = [] := (by unfold addN; rw [he]; rfl); have hL : addL ns ls n = [] := (by unfold addL; rw [he]; rfl); exact Gives.mk' ((none, 0), (none, 0)) (by dsimp only; rw [hN, hL, he]; rfl) (by dsimp only; rw [hN, hL]; repeat first | exact sLn _ | apply sLc | apply sLd) hs) | (have he : addErr ns ls n = 1 := (by unfold addErr; rw [show fits n = false by simpa using hb2, Bool.and_false]; rfl); have hN : addN ns ls n = [] := (by unfold addN; rw [he]; rfl); have hL : addL ns ls n = [] := (by unfold addL; rw [he]; rfl); exact Gives.mk' ((none, 0), (none, 0)) (by dsimp only; rw [hN, hL, he]; rfl) (by dsimp only; rw [hN, hL]; repeat first | exact sLn _ | apply sLc | apply sLd) hs) | (have he : addErr ns ls n = 8 := (by unfold addErr; rw [hv, hf, hb3]; rfl); have hN : addN ns ls n = [] := (by unfold addN; rw [he]; rfl); have hL : addL ns ls n = [] := (by unfold addL; rw [he]; rfl); exact Gives.mk' ((none, 0), (none, 0)) (by dsimp only; rw [hN, hL, he]; rfl) (by dsimp only; rw [hN, hL]; repeat first | exact sLn _ | apply sLc | apply sLd) hs) | (have he : addErr ns ls n = 3 := (by unfold addErr; rw [hv, hf, hb3, hb4]; rfl); have hN : addN ns ls n = [] := (by unfold addN; rw [he]; rfl); have hL : addL ns ls n = [] := (by unfold addL; rw [he]; rfl); exact Gives.mk' ((none, 0), (none, 0)) (by dsimp only; rw [hN, hL, he]; rfl) (by dsimp only; rw [hN, hL]; repeat first | exact sLn _ | apply sLc | apply sLd) hs) | (have hN : addN ns ls n = ns.take k ++ [n] ++ ns.drop k := (by unfold addN; rw [he]; exact (ins_stop hq hst).symm); have hL : addL ns ls n = ls := (by unfold addL; rw [he]; rfl); exact Gives.mk' ((a3, c3), (a4, c4)) (by dsimp only; rw [hN, hL, he]; rfl) (by dsimp only; rw [hN, hL]; repeat first | exact sLn _ | apply sLc | apply sLd) hs))
        · skip
          refine cd_skip ?_
          refine ex_go ?_
          refine cd_seq ?_
          have he : addErr ns ls n = 0 := by unfold addErr; rw [hv, hf, hb3, hb4]; rfl
          have h64 := hb4
          clear hb4
          refine cd_region ?_
          refine at_pure (pv_assign rfl) rfl ?_
          refine at_nil ?_
          refine ex_go ?_
          refine cd_seq ?_
          refine cd_block ?_
          refine cd_loop (σ := Nat) (fun s => [(2, Value.pointer (some ⟨g1, 0, none⟩)), (3, Value.pointer (some ⟨g2, 0, none⟩)), (4, Value.pointer (some ⟨g3, 0, none⟩)), (8, .int .i64 (s : Int))]) (fun s => [Box g1 [.slice a ns.length ca, .slice b ls.length cb] 28, Box g2 [.int .i64 n.1, .int .i64 n.2.1, .int .i64 n.2.2.1, .int .i64 n.2.2.2] 70, Box g3 [.slice none 0 0, .slice none 0 0] 28]) (fun s => s ≤ ns.length ∧ insN ns n = ns.take s ++ insN (ns.drop s) n) (fun s => ns.length - s) 0 ⟨Nat.zero_le _, rfl⟩ ⟨rfl, rfl, rfl, rfl, trivial⟩ (by repeat first | exact sLn _ | apply sLc | apply sLd) ?_
          rintro k ⟨hk, hq⟩
          have hat : k < ns.length → ns[k]? = some (at0 ns k) := at0_get
          have hsm := hn.sm
          have hle := hn.le
          refine cd_seq ?_
          refine cd_seq ?_
          refine cd_draw' 16 follows ?_
          refine dr_take 0 rfl (by kernel_rfl) (.refl _) (pv_move rfl) rfl ?_
          refine dr_take 1 rfl (by kernel_rfl) (.refl _) (pv_field0 fa_28_0 rfl (r := 0) rfl) rfl ?_
          refine dr_take 2 rfl (by kernel_rfl) (.refl _) (by exact pv_load ld_25 rfl (box_cell .z .z)) rfl ?_
          refine dr_take 3 rfl (by kernel_rfl) (.refl _) (pv_len Try.underlying25 rfl) rfl ?_
          refine dr_take 4 rfl (by kernel_rfl) (.refl _) (pv_lss rfl rfl) rfl ?_
          refine dr_take 5 rfl (by kernel_rfl) (.refl _) (pv_move rfl) rfl ?_
          refine dr_split 38 rfl (fun hb5 => ?_) (fun hb5 => ?_)
          · skip
            refine dr_take_g 6 rfl rfl rfl hb5 (by kernel_rfl) (.refl _) (pv_field0 fa_28_0 rfl (r := 0) rfl) rfl ?_
            refine dr_take_g 7 rfl rfl rfl hb5 (by kernel_rfl) (.refl _) (by exact pv_load ld_25 rfl (box_cell .z .z)) rfl ?_
            refine dr_take_g 8 rfl rfl rfl hb5 (by kernel_rfl) (.refl _) (pv_move rfl) rfl ?_
            refine dr_take_g 9 rfl rfl rfl hb5 (by kernel_rfl) (.refl _) (pv_ix Try.underlying25 cz_70 rfl rfl (by first | omega | (simp only [decide_eq_true_eq, decide_eq_false_iff_not] at *; omega)) hn.real (k := k) (by omega)) rfl ?_
            refine dr_take_g 10 rfl rfl rfl hb5 (by kernel_rfl) (.refl _) (pv_fieldAddr fa_70_0 rfl) rfl ?_
            refine dr_take_g 11 rfl rfl rfl hb5 (by kernel_rfl) (.refl _) (pv_elem ld_3 rfl (hn.get (hat (by first | omega | (simp only [decide_eq_true_eq] at *; omega))) .z)) rfl ?_
            refine dr_take_g 12 rfl rfl rfl hb5 (by kernel_rfl) (.refl _) (pv_field0 fa_70_0 rfl (r := 0) rfl) rfl ?_
            refine dr_take_g 13 rfl rfl rfl hb5 (by kernel_rfl) (.refl _) (by exact pv_load ld_3 rfl (box_cell (.s .z) .z)) rfl ?_
            refine dr_take_g 14 rfl rfl rfl hb5 (by kernel_rfl) (.refl _) (pv_lss rfl rfl) rfl ?_
            refine dr_take 15 rfl (by kernel_rfl) (.refl _) (pv_pick_t rfl hb5 rfl) rfl ?_
            refine dr_done (by kernel_rfl) ?_
            refine ex_go ?_
            refine cd_if rfl (fun hb6 => ?_) (fun hb6 => ?_)
            · skip
              refine cd_skip ?_
              refine ex_go ?_
              refine cd_block ?_
              refine cd_region ?_
              refine at_pure (pv_move rfl) rfl ?_
              refine at_pure (by first | exact pv_add_n rfl rfl (by unfold In64; omega) | exact pv_add rfl rfl) rfl ?_
              refine at_pure (pv_assign rfl) rfl ?_
              refine at_nil ?_
              refine ex_in_normal ?_
              have hkl : k < ns.length := (by first | omega | (simp only [decide_eq_true_eq] at *; omega))
              exact ex_meet (k + 1) ⟨⟨by omega, ins_step hq (hat hkl) (by simp only [decide_eq_true_eq] at *; omega)⟩, by omega⟩ ⟨rfl, rfl, rfl, rfl, trivial⟩ (by repeat first | exact sLn _ | apply sLc | apply sLd)
            · skip
              refine cd_exit ?_
              refine ex_then_exit (ex_then_exit (ex_in (ex_go ?_)))
              refine cd_seq ?_
              have hst : ns.drop k = [] ∨ ∃ z, ns[k]? = some z ∧ ¬ z.1 < n.1 := by
                by_cases hkl : k < ns.length
                · refine .inr ⟨_, hat hkl, ?_⟩
                  have e1 : decide ((k : Int) < (ns.length : Int)) = true := decide_eq_true (by omega)
                  simp only [e1] at *
                  simp_all
                · exact .inl (List.drop_eq_nil_of_le (by omega))
              refine Cd.addNil 70 enc4 4 (.cons (.cons (.cons .nil))) ?_
              refine cd_draw 13 [Box g1 [.slice a ns.length ca, .slice b ls.length cb] 28, Box g2 [.int .i64 n.1, .int .i64 n.2.1, .int .i64 n.2.2.1, .int .i64 n.2.2.2] 70] follows ?_
              refine dr_take 0 rfl (by kernel_rfl) (by repeat first | exact sLn _ | apply sLc | apply sLd) (pv_field0 fa_28_0 rfl (r := 0) rfl) rfl ?_
              refine dr_take 1 rfl (by kernel_rfl) (by repeat first | exact sLn _ | apply sLc | apply sLd) (by exact pv_load ld_25 rfl (box_cell .z .z)) rfl ?_
              refine dr_take 2 rfl (by kernel_rfl) (by repeat first | exact sLn _ | apply sLc | apply sLd) (pv_move rfl) rfl ?_
              refine dr_take 3 rfl (by kernel_rfl) (by repeat first | exact sLn _ | apply sLc | apply sLd) (pv_cut_to Try.underlying25 cz_70 rfl rfl (by omega) (k := (ns.take k).length) (by rw [List.length_take]; omega)) rfl ?_
              refine dr_take 5 rfl (by kernel_rfl) (by repeat first | exact sLn _ | apply sLc | apply sLd) (by exact pv_loads_box ag_70 rfl (.s .z) (.take (.take (.take (.take .done))))) rfl ?_
              refine dr_take 8 rfl (by kernel_rfl) (by repeat first | exact sLn _ | apply sLc | apply sLd) (pv_field0 fa_28_0 rfl (r := 0) rfl) rfl ?_
              refine dr_take 9 rfl (by kernel_rfl) (by repeat first | exact sLn _ | apply sLc | apply sLd) (by exact pv_load ld_25 rfl (box_cell .z .z)) rfl ?_
              refine dr_take 10 rfl (by kernel_rfl) (by repeat first | exact sLn _ | apply sLc | apply sLd) (pv_move rfl) rfl ?_
              refine dr_take 11 rfl (by kernel_rfl) (by repeat first | exact sLn _ | apply sLc | apply sLd) (pv_cut_from' Try.underlying25 cz_70 rfl rfl (by omega) (k := k) (by omega) (l := (ns.drop k).length) (by rw [List.length_drop])) rfl ?_
              refine dr_two 4 6 (by kernel_rfl) rfl rfl ?_ ?_
              · skip
                refine at_hands (does_app (ys := ns.take k) ⟨len4, by decide, one4⟩ Try.underlying25 ap_70 rfl rfl rfl (.s (.s (.s .z))) (fun w hs => (hn.take k).at' hs) (by rw [List.length_take]; simp; omega) hn.nil (fun _ _ => (.s (.s (.s .z))))) rfl (fun a1 c1 hr5 hc5 => ?_)
                refine at_nil (dr_next (fun _ => (by repeat first | exact sLn _ | apply sLc | apply sLd)) ?_)
                refine dr_one 6 (by kernel_rfl) rfl ?_
                refine at_does (does_list (by rfl) (by exact (bs_25_1_0 _ _ _ _)) (by exact (fun _ => (.cons (.cons (.cons (.cons .nil))))))) rfl (fun g6 => ?_)
                refine at_nil (dr_next (fun _ => (by repeat first | exact sLn _ | apply sLc | apply sLd)) ?_)
                refine dr_one 7 (by kernel_rfl) rfl ?_
                refine at_hands (does_app (ys := [n]) ⟨len4, by decide, one4⟩ Try.underlying25 ap_70 rfl rfl rfl (.s (.s (.s .z))) (fun w hs => hs.box1 (enc := enc4) (z := n) (.s (.s (.s (.s .z))))) (by simp; omega) (by simp) (fun _ _ => (.s (.s (.s .z))))) rfl (fun a2 c2 hr7 hc7 => ?_)
                refine at_nil (dr_next (fun _ => (by repeat first | exact sLn _ | apply sLc | apply sLd)) ?_)
                refine dr_one 12 (by kernel_rfl) rfl ?_
                refine at_hands (does_app (ys := ns.drop k) ⟨len4, by decide, one4⟩ Try.underlying25 ap_70 rfl rfl rfl (.s (.s (.s .z))) (fun w hs => (hn.drop k hk).at' hs) (by simp; omega) (hn.drop k hk).nil (fun _ _ => (.s (.s (.s .z))))) rfl (fun a3 c3 hr8 hc8 => ?_)
                refine at_nil (dr_next (fun _ => (by repeat first | exact sLn _ | apply sLc | apply sLd)) ?_)
                refine dr_one 13 (by kernel_rfl) rfl ?_
                refine at_pure (pv_assign rfl) rfl ?_
                refine at_nil (dr_next (fun h => by cases h) ?_)
                refine dr_done (by kernel_rfl) ?_
                refine ex_go ?_
                refine cd_seq ?_
                refine Cd.addNil 61 enc4 4 (.cons (.cons (.cons (.cons (.cons .nil))))) ?_
                refine cd_region ?_
                refine at_pure (pv_move rfl) rfl ?_
                refine at_pure (pv_field0 fa_28_1 rfl (r := 1) rfl) rfl ?_
                refine at_pure (by exact pv_load ld_26 rfl (box_cell .z (.s .z))) rfl ?_
                refine at_hands (does_app (ys := ls) ⟨len4, by decide, one4⟩ Try.underlying26 ap_61 rfl rfl rfl (.s (.s (.s (.s (.s .z))))) (fun w hs => hl.at' hs) (by simp; omega) hl.nil (fun _ _ => (.s (.s (.s (.s (.s .z))))))) rfl (fun a4 c4 hr9 hc9 => ?_)
                refine at_pure (pv_build rfl (bu_28_0_1 _ _ _ _ _ _)) rfl ?_
                refine at_turns (by exact turns_store sz_28 rfl rfl .agg rfl rfl (.s (.s .z)) (.rep (.rep .done)) (.s (.s .z))) ?_
                refine at_pure (pv_assign rfl) rfl ?_
                refine at_nil ?_
                refine ex_go ?_
                refine cd_ret ?_
                exact end_ct rfl (by exact Lies.box ag_28 rfl (.s (.s .z)) rfl) rfl (fun w hs => by first | (have he : addErr ns ls n = 1 := (by unfold addErr; rw [show validS ns ls = false by simpa using hb1]; rfl); have hN : addN ns ls n = [] := (by unfold addN; rw [he]; rfl); have hL : addL ns ls n = [] := (by unfold addL; rw [he]; rfl); exact Gives.mk' ((none, 0), (none, 0)) (by dsimp only; rw [hN, hL, he]; rfl) (by dsimp only; rw [hN, hL]; repeat first | exact sLn _ | apply sLc | apply sLd) hs) | (have he : addErr ns ls n = 1 := (by unfold addErr; rw [show fits n = false by simpa using hb2, Bool.and_false]; rfl); have hN : addN ns ls n = [] := (by unfold addN; rw [he]; rfl); have hL : addL ns ls n = [] := (by unfold addL; rw [he]; rfl); exact Gives.mk' ((none, 0), (none, 0)) (by dsimp only; rw [hN, hL, he]; rfl) (by dsimp only; rw [hN, hL]; repeat first | exact sLn _ | apply sLc | apply sLd) hs) | (have he : addErr ns ls n = 8 := (by unfold addErr; rw [hv, hf, hb3]; rfl); have hN : addN ns ls n = [] := (by unfold addN; rw [he]; rfl); have hL : addL ns ls n = [] := (by unfold addL; rw [he]; rfl); exact Gives.mk' ((none, 0), (none, 0)) (by dsimp only; rw [hN, hL, he]; rfl) (by dsimp only; rw [hN, hL]; repeat first | exact sLn _ | apply sLc | apply sLd) hs) | (have he : addErr ns ls n = 3 := (by unfold addErr; rw [hv, hf, hb3, hb4]; rfl); have hN : addN ns ls n = [] := (by unfold addN; rw [he]; rfl); have hL : addL ns ls n = [] := (by unfold addL; rw [he]; rfl); exact Gives.mk' ((none, 0), (none, 0)) (by dsimp only; rw [hN, hL, he]; rfl) (by dsimp only; rw [hN, hL]; repeat first | exact sLn _ | apply sLc | apply sLd) hs) | (have hN : addN ns ls n = ns.take k ++ [n] ++ ns.drop k := (by unfold addN; rw [he]; exact (ins_stop hq hst).symm); have hL : addL ns ls n = ls := (by unfold addL; rw [he]; rfl); exact Gives.mk' ((a3, c3), (a4, c4)) (by dsimp only; rw [hN, hL, he]; rfl) (by dsimp only; rw [hN, hL]; repeat first | exact sLn _ | apply sLc | apply sLd) hs))
              · skip
                refine at_does (does_list (by rfl) (by exact (bs_25_1_0 _ _ _ _)) (by exact (fun _ => (.cons (.cons (.cons (.cons .nil))))))) rfl (fun g10 => ?_)
                refine at_nil (dr_next (fun _ => (by repeat first | exact sLn _ | apply sLc | apply sLd)) ?_)
                refine dr_one 4 (by kernel_rfl) rfl ?_
                refine at_hands (does_app (ys := ns.take k) ⟨len4, by decide, one4⟩ Try.underlying25 ap_70 rfl rfl rfl (.s (.s (.s .z))) (fun w hs => (hn.take k).at' hs) (by rw [List.length_take]; simp; omega) hn.nil (fun _ _ => (.s (.s (.s .z))))) rfl (fun a1 c1 hr11 hc11 => ?_)
                refine at_nil (dr_next (fun _ => (by repeat first | exact sLn _ | apply sLc | apply sLd)) ?_)
                refine dr_one 7 (by kernel_rfl) rfl ?_
                refine at_hands (does_app (ys := [n]) ⟨len4, by decide, one4⟩ Try.underlying25 ap_70 rfl rfl rfl (.s (.s (.s .z))) (fun w hs => hs.box1 (enc := enc4) (z := n) (.s (.s (.s (.s .z))))) (by simp; omega) (by simp) (fun _ _ => (.s (.s (.s .z))))) rfl (fun a2 c2 hr12 hc12 => ?_)
                refine at_nil (dr_next (fun _ => (by repeat first | exact sLn _ | apply sLc | apply sLd)) ?_)
                refine dr_one 12 (by kernel_rfl) rfl ?_
                refine at_hands (does_app (ys := ns.drop k) ⟨len4, by decide, one4⟩ Try.underlying25 ap_70 rfl rfl rfl (.s (.s (.s .z))) (fun w hs => (hn.drop k hk).at' hs) (by simp; omega) (hn.drop k hk).nil (fun _ _ => (.s (.s (.s .z))))) rfl (fun a3 c3 hr13 hc13 => ?_)
                refine at_nil (dr_next (fun _ => (by repeat first | exact sLn _ | apply sLc | apply sLd)) ?_)
                refine dr_one 13 (by kernel_rfl) rfl ?_
                refine at_pure (pv_assign rfl) rfl ?_
                refine at_nil (dr_next (fun h => by cases h) ?_)
                refine dr_done (by kernel_rfl) ?_
                refine ex_go ?_
                refine cd_seq ?_
                refine Cd.addNil 61 enc4 4 (.cons (.cons (.cons (.cons (.cons .nil))))) ?_
                refine cd_region ?_
                refine at_pure (pv_move rfl) rfl ?_
                refine at_pure (pv_field0 fa_28_1 rfl (r := 1) rfl) rfl ?_
                refine at_pure (by exact pv_load ld_26 rfl (box_cell .z (.s .z))) rfl ?_
                refine at_hands (does_app (ys := ls) ⟨len4, by decide, one4⟩ Try.underlying26 ap_61 rfl rfl rfl (.s (.s (.s (.s (.s .z))))) (fun w hs => hl.at' hs) (by simp; omega) hl.nil (fun _ _ => (.s (.s (.s (.s (.s .z))))))) rfl (fun a4 c4 hr14 hc14 => ?_)
                refine at_pure (pv_build rfl (bu_28_0_1 _ _ _ _ _ _)) rfl ?_
                refine at_turns (by exact turns_store sz_28 rfl rfl .agg rfl rfl (.s (.s .z)) (.rep (.rep .done)) (.s (.s .z))) ?_
                refine at_pure (pv_assign rfl) rfl ?_
                refine at_nil ?_
                refine ex_go ?_
                refine cd_ret ?_
                exact end_ct rfl (by exact Lies.box ag_28 rfl (.s (.s .z)) rfl) rfl (fun w hs => by first | (have he : addErr ns ls n = 1 := (by unfold addErr; rw [show validS ns ls = false by simpa using hb1]; rfl); have hN : addN ns ls n = [] := (by unfold addN; rw [he]; rfl); have hL : addL ns ls n = [] := (by unfold addL; rw [he]; rfl); exact Gives.mk' ((none, 0), (none, 0)) (by dsimp only; rw [hN, hL, he]; rfl) (by dsimp only; rw [hN, hL]; repeat first | exact sLn _ | apply sLc | apply sLd) hs) | (have he : addErr ns ls n = 1 := (by unfold addErr; rw [show fits n = false by simpa using hb2, Bool.and_false]; rfl); have hN : addN ns ls n = [] := (by unfold addN; rw [he]; rfl); have hL : addL ns ls n = [] := (by unfold addL; rw [he]; rfl); exact Gives.mk' ((none, 0), (none, 0)) (by dsimp only; rw [hN, hL, he]; rfl) (by dsimp only; rw [hN, hL]; repeat first | exact sLn _ | apply sLc | apply sLd) hs) | (have he : addErr ns ls n = 8 := (by unfold addErr; rw [hv, hf, hb3]; rfl); have hN : addN ns ls n = [] := (by unfold addN; rw [he]; rfl); have hL : addL ns ls n = [] := (by unfold addL; rw [he]; rfl); exact Gives.mk' ((none, 0), (none, 0)) (by dsimp only; rw [hN, hL, he]; rfl) (by dsimp only; rw [hN, hL]; repeat first | exact sLn _ | apply sLc | apply sLd) hs) | (have he : addErr ns ls n = 3 := (by unfold addErr; rw [hv, hf, hb3, hb4]; rfl); have hN : addN ns ls n = [] := (by unfold addN; rw [he]; rfl); have hL : addL ns ls n = [] := (by unfold addL; rw [he]; rfl); exact Gives.mk' ((none, 0), (none, 0)) (by dsimp only; rw [hN, hL, he]; rfl) (by dsimp only; rw [hN, hL]; repeat first | exact sLn _ | apply sLc | apply sLd) hs) | (have hN : addN ns ls n = ns.take k ++ [n] ++ ns.drop k := (by unfold addN; rw [he]; exact (ins_stop hq hst).symm); have hL : addL ns ls n = ls := (by unfold addL; rw [he]; rfl); exact Gives.mk' ((a3, c3), (a4, c4)) (by dsimp only; rw [hN, hL, he]; rfl) (by dsimp only; rw [hN, hL]; repeat first | exact sLn _ | apply sLc | apply sLd) hs))
          · skip
            refine dr_skip 6 rfl rfl rfl hb5 (by kernel_rfl) (by repeat first | exact sLn _ | apply sLc | apply sLd) rfl ?_
            refine dr_skip 7 rfl rfl rfl hb5 (by kernel_rfl) (by repeat first | exact sLn _ | apply sLc | apply sLd) rfl ?_
            refine dr_skip 8 rfl rfl rfl hb5 (by kernel_rfl) (by repeat first | exact sLn _ | apply sLc | apply sLd) rfl ?_
            refine dr_skip 9 rfl rfl rfl hb5 (by kernel_rfl) (by repeat first | exact sLn _ | apply sLc | apply sLd) rfl ?_
            refine dr_skip 10 rfl rfl rfl hb5 (by kernel_rfl) (by repeat first | exact sLn _ | apply sLc | apply sLd) rfl ?_
            refine dr_skip 11 rfl rfl rfl hb5 (by kernel_rfl) (by repeat first | exact sLn _ | apply sLc | apply sLd) rfl ?_
            refine dr_skip 12 rfl rfl rfl hb5 (by kernel_rfl) (by repeat first | exact sLn _ | apply sLc | apply sLd) rfl ?_
            refine dr_skip 13 rfl rfl rfl hb5 (by kernel_rfl) (by repeat first | exact sLn _ | apply sLc | apply sLd) rfl ?_
            refine dr_skip 14 rfl rfl rfl hb5 (by kernel_rfl) (by repeat first | exact sLn _ | apply sLc | apply sLd) rfl ?_
            refine dr_take 15 rfl (by kernel_rfl) (by repeat first | exact sLn _ | apply sLc | apply sLd) (pv_pick_f rfl hb5 rfl) rfl ?_
            refine dr_done (by kernel_rfl) ?_
            refine ex_go ?_
            refine cd_else rfl rfl ?_
            refine cd_exit ?_
            refine ex_then_exit (ex_then_exit (ex_in (ex_go ?_)))
            refine cd_seq ?_
            have hst : ns.drop k = [] ∨ ∃ z, ns[k]? = some z ∧ ¬ z.1 < n.1 := by
              by_cases hkl : k < ns.length
              · refine .inr ⟨_, hat hkl, ?_⟩
                have e1 : decide ((k : Int) < (ns.length : Int)) = true := decide_eq_true (by omega)
                simp only [e1] at *
                simp_all
              · exact .inl (List.drop_eq_nil_of_le (by omega))
            refine Cd.addNil 70 enc4 4 (.cons (.cons (.cons .nil))) ?_
            refine cd_draw 13 [Box g1 [.slice a ns.length ca, .slice b ls.length cb] 28, Box g2 [.int .i64 n.1, .int .i64 n.2.1, .int .i64 n.2.2.1, .int .i64 n.2.2.2] 70] follows ?_
            refine dr_take 0 rfl (by kernel_rfl) (by repeat first | exact sLn _ | apply sLc | apply sLd) (pv_field0 fa_28_0 rfl (r := 0) rfl) rfl ?_
            refine dr_take 1 rfl (by kernel_rfl) (by repeat first | exact sLn _ | apply sLc | apply sLd) (by exact pv_load ld_25 rfl (box_cell .z .z)) rfl ?_
            refine dr_take 2 rfl (by kernel_rfl) (by repeat first | exact sLn _ | apply sLc | apply sLd) (pv_move rfl) rfl ?_
            refine dr_take 3 rfl (by kernel_rfl) (by repeat first | exact sLn _ | apply sLc | apply sLd) (pv_cut_to Try.underlying25 cz_70 rfl rfl (by omega) (k := (ns.take k).length) (by rw [List.length_take]; omega)) rfl ?_
            refine dr_take 5 rfl (by kernel_rfl) (by repeat first | exact sLn _ | apply sLc | apply sLd) (by exact pv_loads_box ag_70 rfl (.s .z) (.take (.take (.take (.take .done))))) rfl ?_
            refine dr_take 8 rfl (by kernel_rfl) (by repeat first | exact sLn _ | apply sLc | apply sLd) (pv_field0 fa_28_0 rfl (r := 0) rfl) rfl ?_
            refine dr_take 9 rfl (by kernel_rfl) (by repeat first | exact sLn _ | apply sLc | apply sLd) (by exact pv_load ld_25 rfl (box_cell .z .z)) rfl ?_
            refine dr_take 10 rfl (by kernel_rfl) (by repeat first | exact sLn _ | apply sLc | apply sLd) (pv_move rfl) rfl ?_
            refine dr_take 11 rfl (by kernel_rfl) (by repeat first | exact sLn _ | apply sLc | apply sLd) (pv_cut_from' Try.underlying25 cz_70 rfl rfl (by omega) (k := k) (by omega) (l := (ns.drop k).length) (by rw [List.length_drop])) rfl ?_
            refine dr_two 4 6 (by kernel_rfl) rfl rfl ?_ ?_
            · skip
              refine at_hands (does_app (ys := ns.take k) ⟨len4, by decide, one4⟩ Try.underlying25 ap_70 rfl rfl rfl (.s (.s (.s .z))) (fun w hs => (hn.take k).at' hs) (by rw [List.length_take]; simp; omega) hn.nil (fun _ _ => (.s (.s (.s .z))))) rfl (fun a1 c1 hr15 hc15 => ?_)
              refine at_nil (dr_next (fun _ => (by repeat first | exact sLn _ | apply sLc | apply sLd)) ?_)
              refine dr_one 6 (by kernel_rfl) rfl ?_
              refine at_does (does_list (by rfl) (by exact (bs_25_1_0 _ _ _ _)) (by exact (fun _ => (.cons (.cons (.cons (.cons .nil))))))) rfl (fun g16 => ?_)
              refine at_nil (dr_next (fun _ => (by repeat first | exact sLn _ | apply sLc | apply sLd)) ?_)
              refine dr_one 7 (by kernel_rfl) rfl ?_
              refine at_hands (does_app (ys := [n]) ⟨len4, by decide, one4⟩ Try.underlying25 ap_70 rfl rfl rfl (.s (.s (.s .z))) (fun w hs => hs.box1 (enc := enc4) (z := n) (.s (.s (.s (.s .z))))) (by simp; omega) (by simp) (fun _ _ => (.s (.s (.s .z))))) rfl (fun a2 c2 hr17 hc17 => ?_)
              refine at_nil (dr_next (fun _ => (by repeat first | exact sLn _ | apply sLc | apply sLd)) ?_)
              refine dr_one 12 (by kernel_rfl) rfl ?_
              refine at_hands (does_app (ys := ns.drop k) ⟨len4, by decide, one4⟩ Try.underlying25 ap_70 rfl rfl rfl (.s (.s (.s .z))) (fun w hs => (hn.drop k hk).at' hs) (by simp; omega) (hn.drop k hk).nil (fun _ _ => (.s (.s (.s .z))))) rfl (fun a3 c3 hr18 hc18 => ?_)
              refine at_nil (dr_next (fun _ => (by repeat first | exact sLn _ | apply sLc | apply sLd)) ?_)
              refine dr_one 13 (by kernel_rfl) rfl ?_
              refine at_pure (pv_assign rfl) rfl ?_
              refine at_nil (dr_next (fun h => by cases h) ?_)
              refine dr_done (by kernel_rfl) ?_
              refine ex_go ?_
              refine cd_seq ?_
              refine Cd.addNil 61 enc4 4 (.cons (.cons (.cons (.cons (.cons .nil))))) ?_
              refine cd_region ?_
              refine at_pure (pv_move rfl) rfl ?_
              refine at_pure (pv_field0 fa_28_1 rfl (r := 1) rfl) rfl ?_
              refine at_pure (by exact pv_load ld_26 rfl (box_cell .z (.s .z))) rfl ?_
              refine at_hands (does_app (ys := ls) ⟨len4, by decide, one4⟩ Try.underlying26 ap_61 rfl rfl rfl (.s (.s (.s (.s (.s .z))))) (fun w hs => hl.at' hs) (by simp; omega) hl.nil (fun _ _ => (.s (.s (.s (.s (.s .z))))))) rfl (fun a4 c4 hr19 hc19 => ?_)
              refine at_pure (pv_build rfl (bu_28_0_1 _ _ _ _ _ _)) rfl ?_
              refine at_turns (by exact turns_store sz_28 rfl rfl .agg rfl rfl (.s (.s .z)) (.rep (.rep .done)) (.s (.s .z))) ?_
              refine at_pure (pv_assign rfl) rfl ?_
              refine at_nil ?_
              refine ex_go ?_
              refine cd_ret ?_
              exact end_ct rfl (by exact Lies.box ag_28 rfl (.s (.s .z)) rfl) rfl (fun w hs => by first | (have he : addErr ns ls n = 1 := (by unfold addErr; rw [show validS ns ls = false by simpa using hb1]; rfl); have hN : addN ns ls n = [] := (by unfold addN; rw [he]; rfl); have hL : addL ns ls n = [] := (by unfold addL; rw [he]; rfl); exact Gives.mk' ((none, 0), (none, 0)) (by dsimp only; rw [hN, hL, he]; rfl) (by dsimp only; rw [hN, hL]; repeat first | exact sLn _ | apply sLc | apply sLd) hs) | (have he : addErr ns ls n = 1 := (by unfold addErr; rw [show fits n = false by simpa using hb2, Bool.and_false]; rfl); have hN : addN ns ls n = [] := (by unfold addN; rw [he]; rfl); have hL : addL ns ls n = [] := (by unfold addL; rw [he]; rfl); exact Gives.mk' ((none, 0), (none, 0)) (by dsimp only; rw [hN, hL, he]; rfl) (by dsimp only; rw [hN, hL]; repeat first | exact sLn _ | apply sLc | apply sLd) hs) | (have he : addErr ns ls n = 8 := (by unfold addErr; rw [hv, hf, hb3]; rfl); have hN : addN ns ls n = [] := (by unfold addN; rw [he]; rfl); have hL : addL ns ls n = [] := (by unfold addL; rw [he]; rfl); exact Gives.mk' ((none, 0), (none, 0)) (by dsimp only; rw [hN, hL, he]; rfl) (by dsimp only; rw [hN, hL]; repeat first | exact sLn _ | apply sLc | apply sLd) hs) | (have he : addErr ns ls n = 3 := (by unfold addErr; rw [hv, hf, hb3, hb4]; rfl); have hN : addN ns ls n = [] := (by unfold addN; rw [he]; rfl); have hL : addL ns ls n = [] := (by unfold addL; rw [he]; rfl); exact Gives.mk' ((none, 0), (none, 0)) (by dsimp only; rw [hN, hL, he]; rfl) (by dsimp only; rw [hN, hL]; repeat first | exact sLn _ | apply sLc | apply sLd) hs) | (have hN : addN ns ls n = ns.take k ++ [n] ++ ns.drop k := (by unfold addN; rw [he]; exact (ins_stop hq hst).symm); have hL : addL ns ls n = ls := (by unfold addL; rw [he]; rfl); exact Gives.mk' ((a3, c3), (a4, c4)) (by dsimp only; rw [hN, hL, he]; rfl) (by dsimp only; rw [hN, hL]; repeat first | exact sLn _ | apply sLc | apply sLd) hs))
            · skip
              refine at_does (does_list (by rfl) (by exact (bs_25_1_0 _ _ _ _)) (by exact (fun _ => (.cons (.cons (.cons (.cons .nil))))))) rfl (fun g20 => ?_)
              refine at_nil (dr_next (fun _ => (by repeat first | exact sLn _ | apply sLc | apply sLd)) ?_)
              refine dr_one 4 (by kernel_rfl) rfl ?_
              refine at_hands (does_app (ys := ns.take k) ⟨len4, by decide, one4⟩ Try.underlying25 ap_70 rfl rfl rfl (.s (.s (.s .z))) (fun w hs => (hn.take k).at' hs) (by rw [List.length_take]; simp; omega) hn.nil (fun _ _ => (.s (.s (.s .z))))) rfl (fun a1 c1 hr21 hc21 => ?_)
              refine at_nil (dr_next (fun _ => (by repeat first | exact sLn _ | apply sLc | apply sLd)) ?_)
              refine dr_one 7 (by kernel_rfl) rfl ?_
              refine at_hands (does_app (ys := [n]) ⟨len4, by decide, one4⟩ Try.underlying25 ap_70 rfl rfl rfl (.s (.s (.s .z))) (fun w hs => hs.box1 (enc := enc4) (z := n) (.s (.s (.s (.s .z))))) (by simp; omega) (by simp) (fun _ _ => (.s (.s (.s .z))))) rfl (fun a2 c2 hr22 hc22 => ?_)
              refine at_nil (dr_next (fun _ => (by repeat first | exact sLn _ | apply sLc | apply sLd)) ?_)
              refine dr_one 12 (by kernel_rfl) rfl ?_
              refine at_hands (does_app (ys := ns.drop k) ⟨len4, by decide, one4⟩ Try.underlying25 ap_70 rfl rfl rfl (.s (.s (.s .z))) (fun w hs => (hn.drop k hk).at' hs) (by simp; omega) (hn.drop k hk).nil (fun _ _ => (.s (.s (.s .z))))) rfl (fun a3 c3 hr23 hc23 => ?_)
              refine at_nil (dr_next (fun _ => (by repeat first | exact sLn _ | apply sLc | apply sLd)) ?_)
              refine dr_one 13 (by kernel_rfl) rfl ?_
              refine at_pure (pv_assign rfl) rfl ?_
              refine at_nil (dr_next (fun h => by cases h) ?_)
              refine dr_done (by kernel_rfl) ?_
              refine ex_go ?_
              refine cd_seq ?_
              refine Cd.addNil 61 enc4 4 (.cons (.cons (.cons (.cons (.cons .nil))))) ?_
              refine cd_region ?_
              refine at_pure (pv_move rfl) rfl ?_
              refine at_pure (pv_field0 fa_28_1 rfl (r := 1) rfl) rfl ?_
              refine at_pure (by exact pv_load ld_26 rfl (box_cell .z (.s .z))) rfl ?_
              refine at_hands (does_app (ys := ls) ⟨len4, by decide, one4⟩ Try.underlying26 ap_61 rfl rfl rfl (.s (.s (.s (.s (.s .z))))) (fun w hs => hl.at' hs) (by simp; omega) hl.nil (fun _ _ => (.s (.s (.s (.s (.s .z))))))) rfl (fun a4 c4 hr24 hc24 => ?_)
              refine at_pure (pv_build rfl (bu_28_0_1 _ _ _ _ _ _)) rfl ?_
              refine at_turns (by exact turns_store sz_28 rfl rfl .agg rfl rfl (.s (.s .z)) (.rep (.rep .done)) (.s (.s .z))) ?_
              refine at_pure (pv_assign rfl) rfl ?_
              refine at_nil ?_
              refine ex_go ?_
              refine cd_ret ?_
              exact end_ct rfl (by exact Lies.box ag_28 rfl (.s (.s .z)) rfl) rfl (fun w hs => by first | (have he : addErr ns ls n = 1 := (by unfold addErr; rw [show validS ns ls = false by simpa using hb1]; rfl); have hN : addN ns ls n = [] := (by unfold addN; rw [he]; rfl); have hL : addL ns ls n = [] := (by unfold addL; rw [he]; rfl); exact Gives.mk' ((none, 0), (none, 0)) (by dsimp only; rw [hN, hL, he]; rfl) (by dsimp only; rw [hN, hL]; repeat first | exact sLn _ | apply sLc | apply sLd) hs) | (have he : addErr ns ls n = 1 := (by unfold addErr; rw [show fits n = false by simpa using hb2, Bool.and_false]; rfl); have hN : addN ns ls n = [] := (by unfold addN; rw [he]; rfl); have hL : addL ns ls n = [] := (by unfold addL; rw [he]; rfl); exact Gives.mk' ((none, 0), (none, 0)) (by dsimp only; rw [hN, hL, he]; rfl) (by dsimp only; rw [hN, hL]; repeat first | exact sLn _ | apply sLc | apply sLd) hs) | (have he : addErr ns ls n = 8 := (by unfold addErr; rw [hv, hf, hb3]; rfl); have hN : addN ns ls n = [] := (by unfold addN; rw [he]; rfl); have hL : addL ns ls n = [] := (by unfold addL; rw [he]; rfl); exact Gives.mk' ((none, 0), (none, 0)) (by dsimp only; rw [hN, hL, he]; rfl) (by dsimp only; rw [hN, hL]; repeat first | exact sLn _ | apply sLc | apply sLd) hs) | (have he : addErr ns ls n = 3 := (by unfold addErr; rw [hv, hf, hb3, hb4]; rfl); have hN : addN ns ls n = [] := (by unfold addN; rw [he]; rfl); have hL : addL ns ls n = [] := (by unfold addL; rw [he]; rfl); exact Gives.mk' ((none, 0), (none, 0)) (by dsimp only; rw [hN, hL, he]; rfl) (by dsimp only; rw [hN, hL]; repeat first | exact sLn _ | apply sLc | apply sLd) hs) | (have hN : addN ns ls n = ns.take k ++ [n] ++ ns.drop k := (by unfold addN; rw [he]; exact (ins_stop hq hst).symm); have hL : addL ns ls n = ls := (by unfold addL; rw [he]; rfl); exact Gives.mk' ((a3, c3), (a4, c4)) (by dsimp only; rw [hN, hL, he]; rfl) (by dsimp only; rw [hN, hL]; repeat first | exact sLn _ | apply sLc | apply sLd) hs))

def insL : List Q4 → Q4 → List Q4
  | [], l => [l]
  | z :: zs, l => bif less z l then z :: insL zs l else l :: z :: zs
def conErr (ns ls : List Q4) (l : Q4) : Int := bif !validS ns ls then 1 else bif !ports ns l then 7 else bif ls.contains l then 8 else bif decide (256 ≤ (ls.length : Int)) then 3 else bif crowded ns l ls then 10 else bif decide (((orderS ns (insL ls l)).length : Int) < (ns.length : Int)) then 12 else 0
def conN (ns ls : List Q4) (l : Q4) : List Q4 := bif conErr ns ls l == 0 then ns else []
def conL (ns ls : List Q4) (l : Q4) : List Q4 := bif conErr ns ls l == 0 then insL ls l else []
theorem insL_stop {ns : List Q4} {n : Q4} {k : Nat} (h : insL ns n = ns.take k ++ insL (ns.drop k) n) (hs : ns.drop k = [] ∨ ∃ z, ns[k]? = some z ∧ less z n = false) : ns.take k ++ [n] ++ ns.drop k = insL ns n := by
  rw [h, List.append_assoc]
  congr 1
  rcases hs with e | ⟨z, hz, hlt⟩
  · rw [e]; rfl
  · rw [drop_of hz]
    unfold insL
    rw [hlt]; rfl
theorem insL_step {ns : List Q4} {n : Q4} {k : Nat} {z : Q4} (h : insL ns n = ns.take k ++ insL (ns.drop k) n) (hz : ns[k]? = some z) (hlt : less z n = true) : insL ns n = ns.take (k + 1) ++ insL (ns.drop (k + 1)) n := by
  rw [h, drop_of hz]
  conv => lhs; unfold insL
  rw [hlt]
  have e : ns.take (k + 1) = ns.take k ++ [z] := by
    rw [List.take_add_one, hz]; rfl
  rw [e, List.append_assoc]; rfl

set_option maxRecDepth 10000 in
set_option maxHeartbeats 3000000 in
theorem connect_ref (a b : Option Addr) (ca cb : Nat) (ns ls : List Q4) (l : Q4) (w : World) (hn : Sl [] enc4 4 w a ca ns) (hl : Sl [] enc4 4 w b cb ls) : Calls Try.prog 36 [.agg #[.slice a ns.length ca, .slice b ls.length cb], .agg #[.int .i64 l.1, .int .i64 l.2.1, .int .i64 l.2.2.1, .int .i64 l.2.2.2]].toArray w (Gives (fun z : (Option Addr × Nat) × (Option Addr × Nat) => .tuple #[.agg #[.slice z.1.1 (conN ns ls l).length z.1.2, .slice z.2.1 (conL ns ls l).length z.2.2], .int .i64 (conErr ns ls l)]) (fun z => [RowP enc4 4 70 z.1.1 z.1.2 (conN ns ls l), RowP enc4 4 61 z.2.1 z.2.2 (conL ns ls l)]) w) := by
  refine calls_body (n := 81) Try.func36 rfl rfl rfl (St.init _ []) ?_
  refine cd_seq ?_
  refine cd_region ?_
  refine at_does (does_box rfl .agg (fun _ => .nil)) rfl (fun g1 => ?_)
  refine at_does (does_box rfl .agg (fun _ => (.cons .nil))) rfl (fun g2 => ?_)
  refine at_does (does_alloc ze_28 .agg (fun _ => (.cons (.cons .nil)))) rfl (fun g3 => ?_)
  refine at_pure (pv_assign rfl) rfl ?_
  refine at_nil ?_
  refine ex_go ?_
  refine cd_seq ?_
  refine cd_block ?_
  refine cd_seq ?_
  refine cd_region ?_
  refine at_pure (by exact pv_loads_box ag_28 rfl .z (.take (.take .done))) rfl ?_
  refine at_does (does_val cal58 rfl rfl rfl (fun w hs => valid_ref _ _ _ _ _ _ w (hn.at' hs) (hl.at' hs))) rfl (fun _ => ?_)
  refine at_pure (pv_not rfl) rfl ?_
  refine at_pure (pv_assign rfl) rfl ?_
  refine at_nil ?_
  refine ex_go ?_
  refine cd_if rfl (fun hb1 => ?_) (fun hb1 => ?_)
  · skip
    refine cd_seq ?_
    refine Cd.addNil 70 enc4 4 (.cons (.cons (.cons .nil))) ?_
    refine Cd.addNil 61 enc4 4 (.cons (.cons (.cons (.cons .nil)))) ?_
    refine cd_region ?_
    refine at_pure (pv_build rfl (bu_28_)) rfl ?_
    refine at_turns (by exact turns_store sz_28 rfl rfl .agg rfl rfl (.s (.s .z)) (.rep (.rep .done)) (.s (.s .z))) ?_
    refine at_pure (pv_assign rfl) rfl ?_
    refine at_nil ?_
    refine ex_go ?_
    refine cd_ret ?_
    refine ex_in_ret (ex_then_ret ?_)
    exact end_ct rfl (by exact Lies.box ag_28 rfl (.s (.s .z)) rfl) rfl (fun w hs => by first | (have he : conErr ns ls l = 1 := (by unfold conErr; rw [show validS ns ls = false by simpa using hb1]; rfl); have hN : conN ns ls l = [] := (by unfold conN; rw [he]; rfl); have hL : conL ns ls l = [] := (by unfold conL; rw [he]; rfl); exact Gives.mk' ((none, 0), (none, 0)) (by dsimp only; rw [hN, hL, he]; rfl) (by dsimp only; rw [hN, hL]; repeat first | exact sLn _ | apply sLc | apply sLd) hs) | (have he : conErr ns ls l = 7 := (by unfold conErr; rw [show validS ns ls = true by simpa using hb1]; rw [show ports ns l = false by simpa using hb2]; rfl); have hN : conN ns ls l = [] := (by unfold conN; rw [he]; rfl); have hL : conL ns ls l = [] := (by unfold conL; rw [he]; rfl); exact Gives.mk' ((none, 0), (none, 0)) (by dsimp only; rw [hN, hL, he]; rfl) (by dsimp only; rw [hN, hL]; repeat first | exact sLn _ | apply sLc | apply sLd) hs) | (have he : conErr ns ls l = 8 := (by unfold conErr; rw [show validS ns ls = true by simpa using hb1]; rw [show ports ns l = true by simpa using hb2]; rw [hb3]; rfl); have hN : conN ns ls l = [] := (by unfold conN; rw [he]; rfl); have hL : conL ns ls l = [] := (by unfold conL; rw [he]; rfl); exact Gives.mk' ((none, 0), (none, 0)) (by dsimp only; rw [hN, hL, he]; rfl) (by dsimp only; rw [hN, hL]; repeat first | exact sLn _ | apply sLc | apply sLd) hs) | (have he : conErr ns ls l = 3 := (by unfold conErr; rw [show validS ns ls = true by simpa using hb1]; rw [show ports ns l = true by simpa using hb2]; rw [hb3, hb4]; rfl); have hN : conN ns ls l = [] := (by unfold conN; rw [he]; rfl); have hL : conL ns ls l = [] := (by unfold conL; rw [he]; rfl); exact Gives.mk' ((none, 0), (none, 0)) (by dsimp only; rw [hN, hL, he]; rfl) (by dsimp only; rw [hN, hL]; repeat first | exact sLn _ | apply sLc | apply sLd) hs) | (have he : conErr ns ls l = 10 := (by unfold conErr; rw [show validS ns ls = true by simpa using hb1]; rw [show ports ns l = true by simpa using hb2]; rw [hb3, hb4, hb5]; rfl); have hN : conN ns ls l = [] := (by unfold conN; rw [he]; rfl); have hL : conL ns ls l = [] := (by unfold conL; rw [he]; rfl); exact Gives.mk' ((none, 0), (none, 0)) (by dsimp only; rw [hN, hL, he]; rfl) (by dsimp only; rw [hN, hL]; repeat first | exact sLn _ | apply sLc | apply sLd) hs) | (have he : conErr ns ls l = 12 := (by unfold conErr; rw [show validS ns ls = true by simpa using hb1]; rw [show ports ns l = true by simpa using hb2]; rw [hb3, hb4, hb5, ← hins, hcyc]; rfl); have hN : conN ns ls l = [] := (by unfold conN; rw [he]; rfl); have hL : conL ns ls l = [] := (by unfold conL; rw [he]; rfl); exact Gives.mk' ((none, 0), (none, 0)) (by dsimp only; rw [hN, hL, he]; rfl) (by dsimp only; rw [hN, hL]; repeat first | exact sLn _ | apply sLc | apply sLd) hs) | (have he : conErr ns ls l = 0 := (by unfold conErr; rw [show validS ns ls = true by simpa using hb1]; rw [show ports ns l = true by simpa using hb2]; rw [hb3, hb4, hb5, ← hins, hcyc]; rfl); have hN : conN ns ls l = ns := (by unfold conN; rw [he]; rfl); have hL : conL ns ls l = ls.take k ++ [l] ++ ls.drop k := (by unfold conL; rw [he]; exact hins.symm); exact Gives.mk' ((a5, c5), (a3, c3)) (by dsimp only; rw [hN, hL, he]; rfl) (by dsimp only; rw [hN, hL]; repeat first | exact sLn _ | apply sLc | apply sLd) hs))
  · skip
    refine cd_seq ?_
    refine cd_region ?_
    refine at_pure (by exact pv_loads_box ag_28 rfl .z (.take (.take .done))) rfl ?_
    refine at_pure (by exact pv_loads_box ag_61 rfl (.s .z) (.take (.take (.take (.take .done))))) rfl ?_
    refine at_does (does_val cal63 rfl rfl rfl (fun w hs => ports_ref _ _ _ _ _ _ _ w (hn.at' hs) (hl.at' hs))) rfl (fun _ => ?_)
    refine at_pure (pv_not rfl) rfl ?_
    refine at_pure (pv_assign rfl) rfl ?_
    refine at_nil ?_
    refine ex_go ?_
    refine cd_if rfl (fun hb2 => ?_) (fun hb2 => ?_)
    · skip
      refine cd_seq ?_
      refine Cd.addNil 70 enc4 4 (.cons (.cons (.cons .nil))) ?_
      refine Cd.addNil 61 enc4 4 (.cons (.cons (.cons (.cons .nil)))) ?_
      refine cd_region ?_
      refine at_pure (pv_build rfl (bu_28_)) rfl ?_
      refine at_turns (by exact turns_store sz_28 rfl rfl .agg rfl rfl (.s (.s .z)) (.rep (.rep .done)) (.s (.s .z))) ?_
      refine at_pure (pv_assign rfl) rfl ?_
      refine at_nil ?_
      refine ex_go ?_
      refine cd_ret ?_
      refine ex_in_ret (ex_then_ret ?_)
      exact end_ct rfl (by exact Lies.box ag_28 rfl (.s (.s .z)) rfl) rfl (fun w hs => by first | (have he : conErr ns ls l = 1 := (by unfold conErr; rw [show validS ns ls = false by simpa using hb1]; rfl); have hN : conN ns ls l = [] := (by unfold conN; rw [he]; rfl); have hL : conL ns ls l = [] := (by unfold conL; rw [he]; rfl); exact Gives.mk' ((none, 0), (none, 0)) (by dsimp only; rw [hN, hL, he]; rfl) (by dsimp only; rw [hN, hL]; repeat first | exact sLn _ | apply sLc | apply sLd) hs) | (have he : conErr ns ls l = 7 := (by unfold conErr; rw [show validS ns ls = true by simpa using hb1]; rw [show ports ns l = false by simpa using hb2]; rfl); have hN : conN ns ls l = [] := (by unfold conN; rw [he]; rfl); have hL : conL ns ls l = [] := (by unfold conL; rw [he]; rfl); exact Gives.mk' ((none, 0), (none, 0)) (by dsimp only; rw [hN, hL, he]; rfl) (by dsimp only; rw [hN, hL]; repeat first | exact sLn _ | apply sLc | apply sLd) hs) | (have he : conErr ns ls l = 8 := (by unfold conErr; rw [show validS ns ls = true by simpa using hb1]; rw [show ports ns l = true by simpa using hb2]; rw [hb3]; rfl); have hN : conN ns ls l = [] := (by unfold conN; rw [he]; rfl); have hL : conL ns ls l = [] := (by unfold conL; rw [he]; rfl); exact Gives.mk' ((none, 0), (none, 0)) (by dsimp only; rw [hN, hL, he]; rfl) (by dsimp only; rw [hN, hL]; repeat first | exact sLn _ | apply sLc | apply sLd) hs) | (have he : conErr ns ls l = 3 := (by unfold conErr; rw [show validS ns ls = true by simpa using hb1]; rw [show ports ns l = true by simpa using hb2]; rw [hb3, hb4]; rfl); have hN : conN ns ls l = [] := (by unfold conN; rw [he]; rfl); have hL : conL ns ls l = [] := (by unfold conL; rw [he]; rfl); exact Gives.mk' ((none, 0), (none, 0)) (by dsimp only; rw [hN, hL, he]; rfl) (by dsimp only; rw [hN, hL]; repeat first | exact sLn _ | apply sLc | apply sLd) hs) | (have he : conErr ns ls l = 10 := (by unfold conErr; rw [show validS ns ls = true by simpa using hb1]; rw [show ports ns l = true by simpa using hb2]; rw [hb3, hb4, hb5]; rfl); have hN : conN ns ls l = [] := (by unfold conN; rw [he]; rfl); have hL : conL ns ls l = [] := (by unfold conL; rw [he]; rfl); exact Gives.mk' ((none, 0), (none, 0)) (by dsimp only; rw [hN, hL, he]; rfl) (by dsimp only; rw [hN, hL]; repeat first | exact sLn _ | apply sLc | apply sLd) hs) | (have he : conErr ns ls l = 12 := (by unfold conErr; rw [show validS ns ls = true by simpa using hb1]; rw [show ports ns l = true by simpa using hb2]; rw [hb3, hb4, hb5, ← hins, hcyc]; rfl); have hN : conN ns ls l = [] := (by unfold conN; rw [he]; rfl); have hL : conL ns ls l = [] := (by unfold conL; rw [he]; rfl); exact Gives.mk' ((none, 0), (none, 0)) (by dsimp only; rw [hN, hL, he]; rfl) (by dsimp only; rw [hN, hL]; repeat first | exact sLn _ | apply sLc | apply sLd) hs) | (have he : conErr ns ls l = 0 := (by unfold conErr; rw [show validS ns ls = true by simpa using hb1]; rw [show ports ns l = true by simpa using hb2]; rw [hb3, hb4, hb5, ← hins, hcyc]; rfl); have hN : conN ns ls l = ns := (by unfold conN; rw [he]; rfl); have hL : conL ns ls l = ls.take k ++ [l] ++ ls.drop k := (by unfold conL; rw [he]; exact hins.symm); exact Gives.mk' ((a5, c5), (a3, c3)) (by dsimp only; rw [hN, hL, he]; rfl) (by dsimp only; rw [hN, hL]; repeat first | exact sLn _ | apply sLc | apply sLd) hs))
    · skip
      refine cd_seq ?_
      refine cd_region ?_
      refine at_pure (by exact pv_loads_box ag_28 rfl .z (.take (.take .done))) rfl ?_
      refine at_pure (by exact pv_loads_box ag_61 rfl (.s .z) (.take (.take (.take (.take .done))))) rfl ?_
      refine at_does (does_val cal64 rfl rfl rfl (fun w hs => has_ref _ _ _ _ _ _ _ w (hn.at' hs) (hl.at' hs))) rfl (fun _ => ?_)
      refine at_pure (pv_assign rfl) rfl ?_
      refine at_nil ?_
      refine ex_go ?_
      refine cd_if rfl (fun hb3 => ?_) (fun hb3 => ?_)
      · skip
        refine cd_seq ?_
        refine Cd.addNil 70 enc4 4 (.cons (.cons (.cons .nil))) ?_
        refine Cd.addNil 61 enc4 4 (.cons (.cons (.cons (.cons .nil)))) ?_
        refine cd_region ?_
        refine at_pure (pv_build rfl (bu_28_)) rfl ?_
        refine at_turns (by exact turns_store sz_28 rfl rfl .agg rfl rfl (.s (.s .z)) (.rep (.rep .done)) (.s (.s .z))) ?_
        refine at_pure (pv_assign rfl) rfl ?_
        refine at_nil ?_
        refine ex_go ?_
        refine cd_ret ?_
        refine ex_in_ret (ex_then_ret ?_)
        exact end_ct rfl (by exact Lies.box ag_28 rfl (.s (.s .z)) rfl) rfl (fun w hs => by first | (have he : conErr ns ls l = 1 := (by unfold conErr; rw [show validS ns ls = false by simpa using hb1]; rfl); have hN : conN ns ls l = [] := (by unfold conN; rw [he]; rfl); have hL : conL ns ls l = [] := (by unfold conL; rw [he]; rfl); exact Gives.mk' ((none, 0), (none, 0)) (by dsimp only; rw [hN, hL, he]; rfl) (by dsimp only; rw [hN, hL]; repeat first | exact sLn _ | apply sLc | apply sLd) hs) | (have he : conErr ns ls l = 7 := (by unfold conErr; rw [show validS ns ls = true by simpa using hb1]; rw [show ports ns l = false by simpa using hb2]; rfl); have hN : conN ns ls l = [] := (by unfold conN; rw [he]; rfl); have hL : conL ns ls l = [] := (by unfold conL; rw [he]; rfl); exact Gives.mk' ((none, 0), (none, 0)) (by dsimp only; rw [hN, hL, he]; rfl) (by dsimp only; rw [hN, hL]; repeat first | exact sLn _ | apply sLc | apply sLd) hs) | (have he : conErr ns ls l = 8 := (by unfold conErr; rw [show validS ns ls = true by simpa using hb1]; rw [show ports ns l = true by simpa using hb2]; rw [hb3]; rfl); have hN : conN ns ls l = [] := (by unfold conN; rw [he]; rfl); have hL : conL ns ls l = [] := (by unfold conL; rw [he]; rfl); exact Gives.mk' ((none, 0), (none, 0)) (by dsimp only; rw [hN, hL, he]; rfl) (by dsimp only; rw [hN, hL]; repeat first | exact sLn _ | apply sLc | apply sLd) hs) | (have he : conErr ns ls l = 3 := (by unfold conErr; rw [show validS ns ls = true by simpa using hb1]; rw [show ports ns l = true by simpa using hb2]; rw [hb3, hb4]; rfl); have hN : conN ns ls l = [] := (by unfold conN; rw [he]; rfl); have hL : conL ns ls l = [] := (by unfold conL; rw [he]; rfl); exact Gives.mk' ((none, 0), (none, 0)) (by dsimp only; rw [hN, hL, he]; rfl) (by dsimp only; rw [hN, hL]; repeat first | exact sLn _ | apply sLc | apply sLd) hs) | (have he : conErr ns ls l = 10 := (by unfold conErr; rw [show validS ns ls = true by simpa using hb1]; rw [show ports ns l = true by simpa using hb2]; rw [hb3, hb4, hb5]; rfl); have hN : conN ns ls l = [] := (by unfold conN; rw [he]; rfl); have hL : conL ns ls l = [] := (by unfold conL; rw [he]; rfl); exact Gives.mk' ((none, 0), (none, 0)) (by dsimp only; rw [hN, hL, he]; rfl) (by dsimp only; rw [hN, hL]; repeat first | exact sLn _ | apply sLc | apply sLd) hs) | (have he : conErr ns ls l = 12 := (by unfold conErr; rw [show validS ns ls = true by simpa using hb1]; rw [show ports ns l = true by simpa using hb2]; rw [hb3, hb4, hb5, ← hins, hcyc]; rfl); have hN : conN ns ls l = [] := (by unfold conN; rw [he]; rfl); have hL : conL ns ls l = [] := (by unfold conL; rw [he]; rfl); exact Gives.mk' ((none, 0), (none, 0)) (by dsimp only; rw [hN, hL, he]; rfl) (by dsimp only; rw [hN, hL]; repeat first | exact sLn _ | apply sLc | apply sLd) hs) | (have he : conErr ns ls l = 0 := (by unfold conErr; rw [show validS ns ls = true by simpa using hb1]; rw [show ports ns l = true by simpa using hb2]; rw [hb3, hb4, hb5, ← hins, hcyc]; rfl); have hN : conN ns ls l = ns := (by unfold conN; rw [he]; rfl); have hL : conL ns ls l = ls.take k ++ [l] ++ ls.drop k := (by unfold conL; rw [he]; exact hins.symm); exact Gives.mk' ((a5, c5), (a3, c3)) (by dsimp only; rw [hN, hL, he]; rfl) (by dsimp only; rw [hN, hL]; repeat first | exact sLn _ | apply sLc | apply sLd) hs))
      · skip
        refine cd_seq ?_
        refine cd_region ?_
        refine at_pure (pv_field0 fa_28_1 rfl (r := 1) rfl) rfl ?_
        refine at_pure (by exact pv_load ld_26 rfl (box_cell .z (.s .z))) rfl ?_
        refine at_pure (pv_len Try.underlying26 rfl) rfl ?_
        refine at_pure (pv_geq rfl rfl) rfl ?_
        refine at_pure (pv_assign rfl) rfl ?_
        refine at_nil ?_
        refine ex_go ?_
        refine cd_if rfl (fun hb4 => ?_) (fun hb4 => ?_)
        · skip
          refine cd_seq ?_
          refine Cd.addNil 70 enc4 4 (.cons (.cons (.cons .nil))) ?_
          refine Cd.addNil 61 enc4 4 (.cons (.cons (.cons (.cons .nil)))) ?_
          refine cd_region ?_
          refine at_pure (pv_build rfl (bu_28_)) rfl ?_
          refine at_turns (by exact turns_store sz_28 rfl rfl .agg rfl rfl (.s (.s .z)) (.rep (.rep .done)) (.s (.s .z))) ?_
          refine at_pure (pv_assign rfl) rfl ?_
          refine at_nil ?_
          refine ex_go ?_
          refine cd_ret ?_
          refine ex_in_ret (ex_then_ret ?_)
          exact end_ct rfl (by exact Lies.box ag_28 rfl (.s (.s .z)) rfl) rfl (fun w hs => by first | (have he : conErr ns ls l = 1 := (by unfold conErr; rw [show validS ns ls = false by simpa using hb1]; rfl); have hN : conN ns ls l = [] := (by unfold conN; rw [he]; rfl); have hL : conL ns ls l = [] := (by unfold conL; rw [he]; rfl); exact Gives.mk' ((none, 0), (none, 0)) (by dsimp only; rw [hN, hL, he]; rfl) (by dsimp only; rw [hN, hL]; repeat first | exact sLn _ | apply sLc | apply sLd) hs) | (have he : conErr ns ls l = 7 := (by unfold conErr; rw [show validS ns ls = true by simpa using hb1]; rw [show ports ns l = false by simpa using hb2]; rfl); have hN : conN ns ls l = [] := (by unfold conN; rw [he]; rfl); have hL : conL ns ls l = [] := (by unfold conL; rw [he]; rfl); exact Gives.mk' ((none, 0), (none, 0)) (by dsimp only; rw [hN, hL, he]; rfl) (by dsimp only; rw [hN, hL]; repeat first | exact sLn _ | apply sLc | apply sLd) hs) | (have he : conErr ns ls l = 8 := (by unfold conErr; rw [show validS ns ls = true by simpa using hb1]; rw [show ports ns l = true by simpa using hb2]; rw [hb3]; rfl); have hN : conN ns ls l = [] := (by unfold conN; rw [he]; rfl); have hL : conL ns ls l = [] := (by unfold conL; rw [he]; rfl); exact Gives.mk' ((none, 0), (none, 0)) (by dsimp only; rw [hN, hL, he]; rfl) (by dsimp only; rw [hN, hL]; repeat first | exact sLn _ | apply sLc | apply sLd) hs) | (have he : conErr ns ls l = 3 := (by unfold conErr; rw [show validS ns ls = true by simpa using hb1]; rw [show ports ns l = true by simpa using hb2]; rw [hb3, hb4]; rfl); have hN : conN ns ls l = [] := (by unfold conN; rw [he]; rfl); have hL : conL ns ls l = [] := (by unfold conL; rw [he]; rfl); exact Gives.mk' ((none, 0), (none, 0)) (by dsimp only; rw [hN, hL, he]; rfl) (by dsimp only; rw [hN, hL]; repeat first | exact sLn _ | apply sLc | apply sLd) hs) | (have he : conErr ns ls l = 10 := (by unfold conErr; rw [show validS ns ls = true by simpa using hb1]; rw [show ports ns l = true by simpa using hb2]; rw [hb3, hb4, hb5]; rfl); have hN : conN ns ls l = [] := (by unfold conN; rw [he]; rfl); have hL : conL ns ls l = [] := (by unfold conL; rw [he]; rfl); exact Gives.mk' ((none, 0), (none, 0)) (by dsimp only; rw [hN, hL, he]; rfl) (by dsimp only; rw [hN, hL]; repeat first | exact sLn _ | apply sLc | apply sLd) hs) | (have he : conErr ns ls l = 12 := (by unfold conErr; rw [show validS ns ls = true by simpa using hb1]; rw [show ports ns l = true by simpa using hb2]; rw [hb3, hb4, hb5, ← hins, hcyc]; rfl); have hN : conN ns ls l = [] := (by unfold conN; rw [he]; rfl); have hL : conL ns ls l = [] := (by unfold conL; rw [he]; rfl); exact Gives.mk' ((none, 0), (none, 0)) (by dsimp only; rw [hN, hL, he]; rfl) (by dsimp only; rw [hN, hL]; repeat first | exact sLn _ | apply sLc | apply sLd) hs) | (have he : conErr ns ls l = 0 := (by unfold conErr; rw [show validS ns ls = true by simpa using hb1]; rw [show ports ns l = true by simpa using hb2]; rw [hb3, hb4, hb5, ← hins, hcyc]; rfl); have hN : conN ns ls l = ns := (by unfold conN; rw [he]; rfl); have hL : conL ns ls l = ls.take k ++ [l] ++ ls.drop k := (by unfold conL; rw [he]; exact hins.symm); exact Gives.mk' ((a5, c5), (a3, c3)) (by dsimp only; rw [hN, hL, he]; rfl) (by dsimp only; rw [hN, hL]; repeat first | exact sLn _ | apply sLc | apply sLd) hs))
        · skip
          refine cd_seq ?_
          refine cd_region ?_
          refine at_pure (by exact pv_loads_box ag_28 rfl .z (.take (.take .done))) rfl ?_
          refine at_pure (by exact pv_loads_box ag_61 rfl (.s .z) (.take (.take (.take (.take .done))))) rfl ?_
          refine at_pure (pv_field0 fa_28_1 rfl (r := 1) rfl) rfl ?_
          refine at_pure (by exact pv_load ld_26 rfl (box_cell .z (.s .z))) rfl ?_
          refine at_does (does_val cal67 rfl rfl rfl (fun w hs => crowded_ref _ _ _ _ _ _ _ b cb ls w (hn.at' hs) (hl.at' hs) (hl.at' hs))) rfl (fun _ => ?_)
          refine at_pure (pv_assign rfl) rfl ?_
          refine at_nil ?_
          refine ex_go ?_
          refine cd_if rfl (fun hb5 => ?_) (fun hb5 => ?_)
          · skip
            refine cd_seq ?_
            refine Cd.addNil 70 enc4 4 (.cons (.cons (.cons .nil))) ?_
            refine Cd.addNil 61 enc4 4 (.cons (.cons (.cons (.cons .nil)))) ?_
            refine cd_region ?_
            refine at_pure (pv_build rfl (bu_28_)) rfl ?_
            refine at_turns (by exact turns_store sz_28 rfl rfl .agg rfl rfl (.s (.s .z)) (.rep (.rep .done)) (.s (.s .z))) ?_
            refine at_pure (pv_assign rfl) rfl ?_
            refine at_nil ?_
            refine ex_go ?_
            refine cd_ret ?_
            refine ex_in_ret (ex_then_ret ?_)
            exact end_ct rfl (by exact Lies.box ag_28 rfl (.s (.s .z)) rfl) rfl (fun w hs => by first | (have he : conErr ns ls l = 1 := (by unfold conErr; rw [show validS ns ls = false by simpa using hb1]; rfl); have hN : conN ns ls l = [] := (by unfold conN; rw [he]; rfl); have hL : conL ns ls l = [] := (by unfold conL; rw [he]; rfl); exact Gives.mk' ((none, 0), (none, 0)) (by dsimp only; rw [hN, hL, he]; rfl) (by dsimp only; rw [hN, hL]; repeat first | exact sLn _ | apply sLc | apply sLd) hs) | (have he : conErr ns ls l = 7 := (by unfold conErr; rw [show validS ns ls = true by simpa using hb1]; rw [show ports ns l = false by simpa using hb2]; rfl); have hN : conN ns ls l = [] := (by unfold conN; rw [he]; rfl); have hL : conL ns ls l = [] := (by unfold conL; rw [he]; rfl); exact Gives.mk' ((none, 0), (none, 0)) (by dsimp only; rw [hN, hL, he]; rfl) (by dsimp only; rw [hN, hL]; repeat first | exact sLn _ | apply sLc | apply sLd) hs) | (have he : conErr ns ls l = 8 := (by unfold conErr; rw [show validS ns ls = true by simpa using hb1]; rw [show ports ns l = true by simpa using hb2]; rw [hb3]; rfl); have hN : conN ns ls l = [] := (by unfold conN; rw [he]; rfl); have hL : conL ns ls l = [] := (by unfold conL; rw [he]; rfl); exact Gives.mk' ((none, 0), (none, 0)) (by dsimp only; rw [hN, hL, he]; rfl) (by dsimp only; rw [hN, hL]; repeat first | exact sLn _ | apply sLc | apply sLd) hs) | (have he : conErr ns ls l = 3 := (by unfold conErr; rw [show validS ns ls = true by simpa using hb1]; rw [show ports ns l = true by simpa using hb2]; rw [hb3, hb4]; rfl); have hN : conN ns ls l = [] := (by unfold conN; rw [he]; rfl); have hL : conL ns ls l = [] := (by unfold conL; rw [he]; rfl); exact Gives.mk' ((none, 0), (none, 0)) (by dsimp only; rw [hN, hL, he]; rfl) (by dsimp only; rw [hN, hL]; repeat first | exact sLn _ | apply sLc | apply sLd) hs) | (have he : conErr ns ls l = 10 := (by unfold conErr; rw [show validS ns ls = true by simpa using hb1]; rw [show ports ns l = true by simpa using hb2]; rw [hb3, hb4, hb5]; rfl); have hN : conN ns ls l = [] := (by unfold conN; rw [he]; rfl); have hL : conL ns ls l = [] := (by unfold conL; rw [he]; rfl); exact Gives.mk' ((none, 0), (none, 0)) (by dsimp only; rw [hN, hL, he]; rfl) (by dsimp only; rw [hN, hL]; repeat first | exact sLn _ | apply sLc | apply sLd) hs) | (have he : conErr ns ls l = 12 := (by unfold conErr; rw [show validS ns ls = true by simpa using hb1]; rw [show ports ns l = true by simpa using hb2]; rw [hb3, hb4, hb5, ← hins, hcyc]; rfl); have hN : conN ns ls l = [] := (by unfold conN; rw [he]; rfl); have hL : conL ns ls l = [] := (by unfold conL; rw [he]; rfl); exact Gives.mk' ((none, 0), (none, 0)) (by dsimp only; rw [hN, hL, he]; rfl) (by dsimp only; rw [hN, hL]; repeat first | exact sLn _ | apply sLc | apply sLd) hs) | (have he : conErr ns ls l = 0 := (by unfold conErr; rw [show validS ns ls = true by simpa using hb1]; rw [show ports ns l = true by simpa using hb2]; rw [hb3, hb4, hb5, ← hins, hcyc]; rfl); have hN : conN ns ls l = ns := (by unfold conN; rw [he]; rfl); have hL : conL ns ls l = ls.take k ++ [l] ++ ls.drop k := (by unfold conL; rw [he]; exact hins.symm); exact Gives.mk' ((a5, c5), (a3, c3)) (by dsimp only; rw [hN, hL, he]; rfl) (by dsimp only; rw [hN, hL]; repeat first | exact sLn _ | apply sLc | apply sLd) hs))
          · skip
            refine cd_skip ?_
            refine ex_in_normal (ex_go ?_)
            refine cd_seq ?_
            have hv : validS ns ls = true := by simpa using hb1
            have hvf := valid_facts hv
            refine cd_region ?_
            refine at_pure (pv_assign rfl) rfl ?_
            refine at_nil ?_
            refine ex_go ?_
            refine cd_seq ?_
            refine cd_block ?_
            refine cd_loop (σ := Nat) (fun s => [(2, Value.pointer (some ⟨g1, 0, none⟩)), (3, Value.pointer (some ⟨g2, 0, none⟩)), (4, Value.pointer (some ⟨g3, 0, none⟩)), (6, .int .i64 (s : Int))]) (fun s => [Box g1 [.slice a ns.length ca, .slice b ls.length cb] 28, Box g2 [.int .i64 l.1, .int .i64 l.2.1, .int .i64 l.2.2.1, .int .i64 l.2.2.2] 61, Box g3 [.slice none 0 0, .slice none 0 0] 28]) (fun s => s ≤ ls.length ∧ insL ls l = ls.take s ++ insL (ls.drop s) l) (fun s => ls.length - s) 0 ⟨Nat.zero_le _, rfl⟩ ⟨rfl, rfl, rfl, rfl, trivial⟩ (by repeat first | exact sLn _ | apply sLc | apply sLd) ?_
            rintro k ⟨hk, hq⟩
            have hat : k < ls.length → ls[k]? = some (at0 ls k) := at0_get
            have hsm := hl.sm
            have hle := hl.le
            refine cd_seq ?_
            refine cd_seq ?_
            refine cd_draw' 14 follows ?_
            refine dr_take 0 rfl (by kernel_rfl) (.refl _) (pv_move rfl) rfl ?_
            refine dr_take 1 rfl (by kernel_rfl) (.refl _) (pv_field0 fa_28_1 rfl (r := 1) rfl) rfl ?_
            refine dr_take 2 rfl (by kernel_rfl) (.refl _) (by exact pv_load ld_26 rfl (box_cell .z (.s .z))) rfl ?_
            refine dr_take 3 rfl (by kernel_rfl) (.refl _) (pv_len Try.underlying26 rfl) rfl ?_
            refine dr_take 4 rfl (by kernel_rfl) (.refl _) (pv_lss rfl rfl) rfl ?_
            refine dr_take 5 rfl (by kernel_rfl) (.refl _) (pv_move rfl) rfl ?_
            refine dr_split 43 rfl (fun hb6 => ?_) (fun hb6 => ?_)
            · skip
              refine dr_take_g 6 rfl rfl rfl hb6 (by kernel_rfl) (.refl _) (pv_field0 fa_28_1 rfl (r := 1) rfl) rfl ?_
              refine dr_take_g 7 rfl rfl rfl hb6 (by kernel_rfl) (.refl _) (by exact pv_load ld_26 rfl (box_cell .z (.s .z))) rfl ?_
              refine dr_take_g 8 rfl rfl rfl hb6 (by kernel_rfl) (.refl _) (pv_move rfl) rfl ?_
              refine dr_take_g 9 rfl rfl rfl hb6 (by kernel_rfl) (.refl _) (pv_ix Try.underlying26 cz_61 rfl rfl (by first | omega | (simp only [decide_eq_true_eq, decide_eq_false_iff_not] at *; omega)) hl.real (k := k) (by omega)) rfl ?_
              refine dr_take_g 10 rfl rfl rfl hb6 (by kernel_rfl) (.refl _) (pv_elems ag_61 rfl (hl.gets (hat (by first | omega | (simp only [decide_eq_true_eq] at *; omega)))) rfl) rfl ?_
              refine dr_take_g 11 rfl rfl rfl hb6 (by kernel_rfl) (.refl _) (by exact pv_loads_box ag_61 rfl (.s .z) (.take (.take (.take (.take .done))))) rfl ?_
              refine dr_one 12 (by kernel_rfl) rfl ?_
              refine at_does_g rfl rfl hb6 (does_val cal68 rfl rfl rfl (fun w hs => less_ref _ _ w)) rfl (fun _ => ?_)
              refine at_nil (dr_next (fun _ => (.refl _)) ?_)
              refine dr_take 13 rfl (by kernel_rfl) (.refl _) (pv_pick_t rfl hb6 rfl) rfl ?_
              refine dr_done (by kernel_rfl) ?_
              refine ex_go ?_
              refine cd_if rfl (fun hb7 => ?_) (fun hb7 => ?_)
              · skip
                refine cd_skip ?_
                refine ex_go ?_
                refine cd_block ?_
                refine cd_region ?_
                refine at_pure (pv_move rfl) rfl ?_
                refine at_pure (by first | exact pv_add_n rfl rfl (by unfold In64; omega) | exact pv_add rfl rfl) rfl ?_
                refine at_pure (pv_assign rfl) rfl ?_
                refine at_nil ?_
                refine ex_in_normal ?_
                have hkl : k < ls.length := (by first | omega | (simp only [decide_eq_true_eq] at *; omega))
                exact ex_meet (k + 1) ⟨⟨by omega, insL_step hq (hat hkl) (by assumption)⟩, by omega⟩ ⟨rfl, rfl, rfl, rfl, trivial⟩ (by repeat first | exact sLn _ | apply sLc | apply sLd)
              · skip
                refine cd_exit ?_
                refine ex_then_exit (ex_then_exit (ex_in (ex_go ?_)))
                refine cd_seq ?_
                have hst : ls.drop k = [] ∨ ∃ z, ls[k]? = some z ∧ less z l = false := by
                  by_cases hkl : k < ls.length
                  · exact .inr ⟨_, hat hkl, by first | assumption | (exfalso; simp only [decide_eq_false_iff_not] at *; omega)⟩
                  · exact .inl (List.drop_eq_nil_of_le (by omega))
                have hins := insL_stop hq hst
                refine Cd.addNil 70 enc4 4 (.cons (.cons (.cons .nil))) ?_
                refine Cd.addNil 61 enc4 4 (.cons (.cons (.cons (.cons .nil)))) ?_
                refine cd_draw 13 [Box g1 [.slice a ns.length ca, .slice b ls.length cb] 28, Box g2 [.int .i64 l.1, .int .i64 l.2.1, .int .i64 l.2.2.1, .int .i64 l.2.2.2] 61] follows ?_
                refine dr_take 0 rfl (by kernel_rfl) (by repeat first | exact sLn _ | apply sLc | apply sLd) (pv_field0 fa_28_1 rfl (r := 1) rfl) rfl ?_
                refine dr_take 1 rfl (by kernel_rfl) (by repeat first | exact sLn _ | apply sLc | apply sLd) (by exact pv_load ld_26 rfl (box_cell .z (.s .z))) rfl ?_
                refine dr_take 2 rfl (by kernel_rfl) (by repeat first | exact sLn _ | apply sLc | apply sLd) (pv_move rfl) rfl ?_
                refine dr_take 3 rfl (by kernel_rfl) (by repeat first | exact sLn _ | apply sLc | apply sLd) (pv_cut_to Try.underlying26 cz_61 rfl rfl (by omega) (k := (ls.take k).length) (by rw [List.length_take]; omega)) rfl ?_
                refine dr_take 5 rfl (by kernel_rfl) (by repeat first | exact sLn _ | apply sLc | apply sLd) (by exact pv_loads_box ag_61 rfl (.s .z) (.take (.take (.take (.take .done))))) rfl ?_
                refine dr_take 8 rfl (by kernel_rfl) (by repeat first | exact sLn _ | apply sLc | apply sLd) (pv_field0 fa_28_1 rfl (r := 1) rfl) rfl ?_
                refine dr_take 9 rfl (by kernel_rfl) (by repeat first | exact sLn _ | apply sLc | apply sLd) (by exact pv_load ld_26 rfl (box_cell .z (.s .z))) rfl ?_
                refine dr_take 10 rfl (by kernel_rfl) (by repeat first | exact sLn _ | apply sLc | apply sLd) (pv_move rfl) rfl ?_
                refine dr_take 11 rfl (by kernel_rfl) (by repeat first | exact sLn _ | apply sLc | apply sLd) (pv_cut_from' Try.underlying26 cz_61 rfl rfl (by omega) (k := k) (by omega) (l := (ls.drop k).length) (by rw [List.length_drop])) rfl ?_
                refine dr_two 4 6 (by kernel_rfl) rfl rfl ?_ ?_
                · skip
                  refine at_hands (does_app (ys := ls.take k) ⟨len4, by decide, one4⟩ Try.underlying26 ap_61 rfl rfl rfl (.s (.s (.s (.s .z)))) (fun w hs => (hl.take k).at' hs) (by rw [List.length_take]; simp; omega) hl.nil (fun _ _ => (.s (.s (.s (.s .z)))))) rfl (fun a1 c1 hr4 hc4 => ?_)
                  refine at_nil (dr_next (fun _ => (by repeat first | exact sLn _ | apply sLc | apply sLd)) ?_)
                  refine dr_one 6 (by kernel_rfl) rfl ?_
                  refine at_does (does_list (by rfl) (by exact (bs_26_1_0 _ _ _ _)) (by exact (fun _ => (.cons (.cons (.cons (.cons (.cons .nil)))))))) rfl (fun g5 => ?_)
                  refine at_nil (dr_next (fun _ => (by repeat first | exact sLn _ | apply sLc | apply sLd)) ?_)
                  refine dr_one 7 (by kernel_rfl) rfl ?_
                  refine at_hands (does_app (ys := [l]) ⟨len4, by decide, one4⟩ Try.underlying26 ap_61 rfl rfl rfl (.s (.s (.s (.s .z)))) (fun w hs => hs.box1 (enc := enc4) (z := l) (.s (.s (.s (.s (.s .z)))))) (by simp; omega) (by simp) (fun _ _ => (.s (.s (.s (.s .z)))))) rfl (fun a2 c2 hr6 hc6 => ?_)
                  refine at_nil (dr_next (fun _ => (by repeat first | exact sLn _ | apply sLc | apply sLd)) ?_)
                  refine dr_one 12 (by kernel_rfl) rfl ?_
                  refine at_hands (does_app (ys := ls.drop k) ⟨len4, by decide, one4⟩ Try.underlying26 ap_61 rfl rfl rfl (.s (.s (.s (.s .z)))) (fun w hs => (hl.drop k hk).at' hs) (by simp; omega) (hl.drop k hk).nil (fun _ _ => (.s (.s (.s (.s .z)))))) rfl (fun a3 c3 hr7 hc7 => ?_)
                  refine at_nil (dr_next (fun _ => (by repeat first | exact sLn _ | apply sLc | apply sLd)) ?_)
                  refine dr_one 13 (by kernel_rfl) rfl ?_
                  refine at_pure (pv_assign rfl) rfl ?_
                  refine at_nil (dr_next (fun h => by cases h) ?_)
                  refine dr_done (by kernel_rfl) ?_
                  refine ex_go ?_
                  refine cd_seq ?_
                  refine cd_region ?_
                  refine at_pure (pv_field0 fa_28_0 rfl (r := 0) rfl) rfl ?_
                  refine at_pure (by exact pv_load ld_25 rfl (box_cell .z .z)) rfl ?_
                  refine at_hands (does_app (ys := ns) ⟨len4, by decide, one4⟩ Try.underlying25 ap_70 rfl rfl rfl (.s (.s (.s .z))) (fun w hs => hn.at' hs) (by simp; omega) hn.nil (fun _ _ => (.s (.s (.s .z))))) rfl (fun a5 c5 hr8 hc8 => ?_)
                  refine at_pure (pv_move rfl) rfl ?_
                  refine at_pure (pv_build rfl (bu_28_0_1 _ _ _ _ _ _)) rfl ?_
                  refine at_does (does_alloc ze_28 .agg (fun _ => (.cons (.cons (.cons (.cons (.cons (.cons .nil)))))))) rfl (fun g9 => ?_)
                  refine at_turns (by exact turns_store sz_28 rfl rfl .agg rfl rfl (.s (.s (.s (.s (.s (.s .z)))))) (.rep (.rep .done)) (.s (.s (.s (.s (.s (.s .z))))))) ?_
                  refine at_nil ?_
                  refine ex_go ?_
                  refine cd_seq ?_
                  refine cd_seq ?_
                  refine cd_draw' 7 follows ?_
                  refine dr_take 0 rfl (by kernel_rfl) (.refl _) (by exact pv_loads_box ag_28 rfl (.s (.s (.s (.s (.s (.s .z)))))) (.take (.take .done))) rfl ?_
                  refine dr_take 3 rfl (by kernel_rfl) (.refl _) (pv_field0 fa_28_0 rfl (r := 0) rfl) rfl ?_
                  refine dr_take 4 rfl (by kernel_rfl) (.refl _) (by exact pv_load ld_25 rfl (box_cell (.s (.s (.s (.s (.s (.s .z)))))) .z)) rfl ?_
                  refine dr_take 5 rfl (by kernel_rfl) (.refl _) (pv_len Try.underlying25 rfl) rfl ?_
                  refine dr_one 1 (by kernel_rfl) rfl ?_
                  refine at_does (does_gives (X := Option Addr × Nat) (val := fun z => .slice z.1 (orderS ns (ls.take k ++ [l] ++ ls.drop k)).length z.2) (Δ := fun z => [RowP enc1 1 3 z.1 z.2 (orderS ns (ls.take k ++ [l] ++ ls.drop k))]) cal69 rfl rfl rfl (fun w hs => by have h9 := order_ref a5 a3 c5 c3 ns (ls.take k ++ [l] ++ ls.drop k) w (hs.rows len4 (by decide) (.s (.s (.s .z)))) (hs.rows len4 (by decide) (.s (.s (.s (.s .z))))) hvf.1 (pos_of hvf.2.2.1); exact h9) (fun _ => (.cons (.cons (.cons (.cons (.cons (.cons (.cons .nil))))))))) rfl (fun z9 => ?_)
                  refine at_nil (dr_next (fun _ => (by repeat first | exact sLn _ | apply sLc | apply sLd)) ?_)
                  refine dr_take 2 rfl (by kernel_rfl) (by repeat first | exact sLn _ | apply sLc | apply sLd) (pv_len Try.underlying22 rfl) rfl ?_
                  refine dr_take 6 rfl (by kernel_rfl) (by repeat first | exact sLn _ | apply sLc | apply sLd) (pv_lss rfl rfl) rfl ?_
                  refine dr_done (by kernel_rfl) ?_
                  refine ex_go ?_
                  refine cd_if rfl (fun hcyc => ?_) (fun hcyc => ?_)
                  · simp only [List.nil_append] at hcyc
                    refine cd_seq ?_
                    refine Cd.addNil 70 enc4 4 (.cons (.cons (.cons (.cons (.cons (.cons (.cons (.cons .nil)))))))) ?_
                    refine Cd.addNil 61 enc4 4 (.cons (.cons (.cons (.cons (.cons (.cons (.cons (.cons (.cons .nil))))))))) ?_
                    refine cd_region ?_
                    refine at_pure (pv_build rfl (bu_28_)) rfl ?_
                    refine at_turns (by exact turns_store sz_28 rfl rfl .agg rfl rfl (.s (.s .z)) (.rep (.rep .done)) (.s (.s .z))) ?_
                    refine at_pure (pv_assign rfl) rfl ?_
                    refine at_nil ?_
                    refine ex_go ?_
                    refine cd_ret ?_
                    refine ex_then_ret ?_
                    exact end_ct rfl (by exact Lies.box ag_28 rfl (.s (.s .z)) rfl) rfl (fun w hs => by first | (have he : conErr ns ls l = 1 := (by unfold conErr; rw [show validS ns ls = false by simpa using hb1]; rfl); have hN : conN ns ls l = [] := (by unfold conN; rw [he]; rfl); have hL : conL ns ls l = [] := (by unfold conL; rw [he]; rfl); exact Gives.mk' ((none, 0), (none, 0)) (by dsimp only; rw [hN, hL, he]; rfl) (by dsimp only; rw [hN, hL]; repeat first | exact sLn _ | apply sLc | apply sLd) hs) | (have he : conErr ns ls l = 7 := (by unfold conErr; rw [show validS ns ls = true by simpa using hb1]; rw [show ports ns l = false by simpa using hb2]; rfl); have hN : conN ns ls l = [] := (by unfold conN; rw [he]; rfl); have hL : conL ns ls l = [] := (by unfold conL; rw [he]; rfl); exact Gives.mk' ((none, 0), (none, 0)) (by dsimp only; rw [hN, hL, he]; rfl) (by dsimp only; rw [hN, hL]; repeat first | exact sLn _ | apply sLc | apply sLd) hs) | (have he : conErr ns ls l = 8 := (by unfold conErr; rw [show validS ns ls = true by simpa using hb1]; rw [show ports ns l = true by simpa using hb2]; rw [hb3]; rfl); have hN : conN ns ls l = [] := (by unfold conN; rw [he]; rfl); have hL : conL ns ls l = [] := (by unfold conL; rw [he]; rfl); exact Gives.mk' ((none, 0), (none, 0)) (by dsimp only; rw [hN, hL, he]; rfl) (by dsimp only; rw [hN, hL]; repeat first | exact sLn _ | apply sLc | apply sLd) hs) | (have he : conErr ns ls l = 3 := (by unfold conErr; rw [show validS ns ls = true by simpa using hb1]; rw [show ports ns l = true by simpa using hb2]; rw [hb3, hb4]; rfl); have hN : conN ns ls l = [] := (by unfold conN; rw [he]; rfl); have hL : conL ns ls l = [] := (by unfold conL; rw [he]; rfl); exact Gives.mk' ((none, 0), (none, 0)) (by dsimp only; rw [hN, hL, he]; rfl) (by dsimp only; rw [hN, hL]; repeat first | exact sLn _ | apply sLc | apply sLd) hs) | (have he : conErr ns ls l = 10 := (by unfold conErr; rw [show validS ns ls = true by simpa using hb1]; rw [show ports ns l = true by simpa using hb2]; rw [hb3, hb4, hb5]; rfl); have hN : conN ns ls l = [] := (by unfold conN; rw [he]; rfl); have hL : conL ns ls l = [] := (by unfold conL; rw [he]; rfl); exact Gives.mk' ((none, 0), (none, 0)) (by dsimp only; rw [hN, hL, he]; rfl) (by dsimp only; rw [hN, hL]; repeat first | exact sLn _ | apply sLc | apply sLd) hs) | (have he : conErr ns ls l = 12 := (by unfold conErr; rw [show validS ns ls = true by simpa using hb1]; rw [show ports ns l = true by simpa using hb2]; rw [hb3, hb4, hb5, ← hins, hcyc]; rfl); have hN : conN ns ls l = [] := (by unfold conN; rw [he]; rfl); have hL : conL ns ls l = [] := (by unfold conL; rw [he]; rfl); exact Gives.mk' ((none, 0), (none, 0)) (by dsimp only; rw [hN, hL, he]; rfl) (by dsimp only; rw [hN, hL]; repeat first | exact sLn _ | apply sLc | apply sLd) hs) | (have he : conErr ns ls l = 0 := (by unfold conErr; rw [show validS ns ls = true by simpa using hb1]; rw [show ports ns l = true by simpa using hb2]; rw [hb3, hb4, hb5, ← hins, hcyc]; rfl); have hN : conN ns ls l = ns := (by unfold conN; rw [he]; rfl); have hL : conL ns ls l = ls.take k ++ [l] ++ ls.drop k := (by unfold conL; rw [he]; exact hins.symm); exact Gives.mk' ((a5, c5), (a3, c3)) (by dsimp only; rw [hN, hL, he]; rfl) (by dsimp only; rw [hN, hL]; repeat first | exact sLn _ | apply sLc | apply sLd) hs))
                  · simp only [List.nil_append] at hcyc
                    refine cd_skip ?_
                    refine ex_go ?_
                    refine cd_seq ?_
                    refine cd_region ?_
                    refine at_pure (by exact pv_loads_box ag_28 rfl (.s (.s (.s (.s (.s (.s .z)))))) (.take (.take .done))) rfl ?_
                    refine at_turns (by exact turns_store sz_28 rfl rfl .agg rfl rfl (.s (.s .z)) (.rep (.rep .done)) (.s (.s .z))) ?_
                    refine at_pure (pv_assign rfl) rfl ?_
                    refine at_nil ?_
                    refine ex_go ?_
                    refine cd_ret ?_
                    exact end_ct rfl (by exact Lies.box ag_28 rfl (.s (.s .z)) rfl) rfl (fun w hs => by first | (have he : conErr ns ls l = 1 := (by unfold conErr; rw [show validS ns ls = false by simpa using hb1]; rfl); have hN : conN ns ls l = [] := (by unfold conN; rw [he]; rfl); have hL : conL ns ls l = [] := (by unfold conL; rw [he]; rfl); exact Gives.mk' ((none, 0), (none, 0)) (by dsimp only; rw [hN, hL, he]; rfl) (by dsimp only; rw [hN, hL]; repeat first | exact sLn _ | apply sLc | apply sLd) hs) | (have he : conErr ns ls l = 7 := (by unfold conErr; rw [show validS ns ls = true by simpa using hb1]; rw [show ports ns l = false by simpa using hb2]; rfl); have hN : conN ns ls l = [] := (by unfold conN; rw [he]; rfl); have hL : conL ns ls l = [] := (by unfold conL; rw [he]; rfl); exact Gives.mk' ((none, 0), (none, 0)) (by dsimp only; rw [hN, hL, he]; rfl) (by dsimp only; rw [hN, hL]; repeat first | exact sLn _ | apply sLc | apply sLd) hs) | (have he : conErr ns ls l = 8 := (by unfold conErr; rw [show validS ns ls = true by simpa using hb1]; rw [show ports ns l = true by simpa using hb2]; rw [hb3]; rfl); have hN : conN ns ls l = [] := (by unfold conN; rw [he]; rfl); have hL : conL ns ls l = [] := (by unfold conL; rw [he]; rfl); exact Gives.mk' ((none, 0), (none, 0)) (by dsimp only; rw [hN, hL, he]; rfl) (by dsimp only; rw [hN, hL]; repeat first | exact sLn _ | apply sLc | apply sLd) hs) | (have he : conErr ns ls l = 3 := (by unfold conErr; rw [show validS ns ls = true by simpa using hb1]; rw [show ports ns l = true by simpa using hb2]; rw [hb3, hb4]; rfl); have hN : conN ns ls l = [] := (by unfold conN; rw [he]; rfl); have hL : conL ns ls l = [] := (by unfold conL; rw [he]; rfl); exact Gives.mk' ((none, 0), (none, 0)) (by dsimp only; rw [hN, hL, he]; rfl) (by dsimp only; rw [hN, hL]; repeat first | exact sLn _ | apply sLc | apply sLd) hs) | (have he : conErr ns ls l = 10 := (by unfold conErr; rw [show validS ns ls = true by simpa using hb1]; rw [show ports ns l = true by simpa using hb2]; rw [hb3, hb4, hb5]; rfl); have hN : conN ns ls l = [] := (by unfold conN; rw [he]; rfl); have hL : conL ns ls l = [] := (by unfold conL; rw [he]; rfl); exact Gives.mk' ((none, 0), (none, 0)) (by dsimp only; rw [hN, hL, he]; rfl) (by dsimp only; rw [hN, hL]; repeat first | exact sLn _ | apply sLc | apply sLd) hs) | (have he : conErr ns ls l = 12 := (by unfold conErr; rw [show validS ns ls = true by simpa using hb1]; rw [show ports ns l = true by simpa using hb2]; rw [hb3, hb4, hb5, ← hins, hcyc]; rfl); have hN : conN ns ls l = [] := (by unfold conN; rw [he]; rfl); have hL : conL ns ls l = [] := (by unfold conL; rw [he]; rfl); exact Gives.mk' ((none, 0), (none, 0)) (by dsimp only; rw [hN, hL, he]; rfl) (by dsimp only; rw [hN, hL]; repeat first | exact sLn _ | apply sLc | apply sLd) hs) | (have he : conErr ns ls l = 0 := (by unfold conErr; rw [show validS ns ls = true by simpa using hb1]; rw [show ports ns l = true by simpa using hb2]; rw [hb3, hb4, hb5, ← hins, hcyc]; rfl); have hN : conN ns ls l = ns := (by unfold conN; rw [he]; rfl); have hL : conL ns ls l = ls.take k ++ [l] ++ ls.drop k := (by unfold conL; rw [he]; exact hins.symm); exact Gives.mk' ((a5, c5), (a3, c3)) (by dsimp only; rw [hN, hL, he]; rfl) (by dsimp only; rw [hN, hL]; repeat first | exact sLn _ | apply sLc | apply sLd) hs))
                · skip
                  refine at_does (does_list (by rfl) (by exact (bs_26_1_0 _ _ _ _)) (by exact (fun _ => (.cons (.cons (.cons (.cons (.cons .nil)))))))) rfl (fun g10 => ?_)
                  refine at_nil (dr_next (fun _ => (by repeat first | exact sLn _ | apply sLc | apply sLd)) ?_)
                  refine dr_one 4 (by kernel_rfl) rfl ?_
                  refine at_hands (does_app (ys := ls.take k) ⟨len4, by decide, one4⟩ Try.underlying26 ap_61 rfl rfl rfl (.s (.s (.s (.s .z)))) (fun w hs => (hl.take k).at' hs) (by rw [List.length_take]; simp; omega) hl.nil (fun _ _ => (.s (.s (.s (.s .z)))))) rfl (fun a1 c1 hr11 hc11 => ?_)
                  refine at_nil (dr_next (fun _ => (by repeat first | exact sLn _ | apply sLc | apply sLd)) ?_)
                  refine dr_one 7 (by kernel_rfl) rfl ?_
                  refine at_hands (does_app (ys := [l]) ⟨len4, by decide, one4⟩ Try.underlying26 ap_61 rfl rfl rfl (.s (.s (.s (.s .z)))) (fun w hs => hs.box1 (enc := enc4) (z := l) (.s (.s (.s (.s (.s .z)))))) (by simp; omega) (by simp) (fun _ _ => (.s (.s (.s (.s .z)))))) rfl (fun a2 c2 hr12 hc12 => ?_)
                  refine at_nil (dr_next (fun _ => (by repeat first | exact sLn _ | apply sLc | apply sLd)) ?_)
                  refine dr_one 12 (by kernel_rfl) rfl ?_
                  refine at_hands (does_app (ys := ls.drop k) ⟨len4, by decide, one4⟩ Try.underlying26 ap_61 rfl rfl rfl (.s (.s (.s (.s .z)))) (fun w hs => (hl.drop k hk).at' hs) (by simp; omega) (hl.drop k hk).nil (fun _ _ => (.s (.s (.s (.s .z)))))) rfl (fun a3 c3 hr13 hc13 => ?_)
                  refine at_nil (dr_next (fun _ => (by repeat first | exact sLn _ | apply sLc | apply sLd)) ?_)
                  refine dr_one 13 (by kernel_rfl) rfl ?_
                  refine at_pure (pv_assign rfl) rfl ?_
                  refine at_nil (dr_next (fun h => by cases h) ?_)
                  refine dr_done (by kernel_rfl) ?_
                  refine ex_go ?_
                  refine cd_seq ?_
                  refine cd_region ?_
                  refine at_pure (pv_field0 fa_28_0 rfl (r := 0) rfl) rfl ?_
                  refine at_pure (by exact pv_load ld_25 rfl (box_cell .z .z)) rfl ?_
                  refine at_hands (does_app (ys := ns) ⟨len4, by decide, one4⟩ Try.underlying25 ap_70 rfl rfl rfl (.s (.s (.s .z))) (fun w hs => hn.at' hs) (by simp; omega) hn.nil (fun _ _ => (.s (.s (.s .z))))) rfl (fun a5 c5 hr14 hc14 => ?_)
                  refine at_pure (pv_move rfl) rfl ?_
                  refine at_pure (pv_build rfl (bu_28_0_1 _ _ _ _ _ _)) rfl ?_
                  refine at_does (does_alloc ze_28 .agg (fun _ => (.cons (.cons (.cons (.cons (.cons (.cons .nil)))))))) rfl (fun g15 => ?_)
                  refine at_turns (by exact turns_store sz_28 rfl rfl .agg rfl rfl (.s (.s (.s (.s (.s (.s .z)))))) (.rep (.rep .done)) (.s (.s (.s (.s (.s (.s .z))))))) ?_
                  refine at_nil ?_
                  refine ex_go ?_
                  refine cd_seq ?_
                  refine cd_seq ?_
                  refine cd_draw' 7 follows ?_
                  refine dr_take 0 rfl (by kernel_rfl) (.refl _) (by exact pv_loads_box ag_28 rfl (.s (.s (.s (.s (.s (.s .z)))))) (.take (.take .done))) rfl ?_
                  refine dr_take 3 rfl (by kernel_rfl) (.refl _) (pv_field0 fa_28_0 rfl (r := 0) rfl) rfl ?_
                  refine dr_take 4 rfl (by kernel_rfl) (.refl _) (by exact pv_load ld_25 rfl (box_cell (.s (.s (.s (.s (.s (.s .z)))))) .z)) rfl ?_
                  refine dr_take 5 rfl (by kernel_rfl) (.refl _) (pv_len Try.underlying25 rfl) rfl ?_
                  refine dr_one 1 (by kernel_rfl) rfl ?_
                  refine at_does (does_gives (X := Option Addr × Nat) (val := fun z => .slice z.1 (orderS ns (ls.take k ++ [l] ++ ls.drop k)).length z.2) (Δ := fun z => [RowP enc1 1 3 z.1 z.2 (orderS ns (ls.take k ++ [l] ++ ls.drop k))]) cal69 rfl rfl rfl (fun w hs => by have h9 := order_ref a5 a3 c5 c3 ns (ls.take k ++ [l] ++ ls.drop k) w (hs.rows len4 (by decide) (.s (.s (.s .z)))) (hs.rows len4 (by decide) (.s (.s (.s (.s .z))))) hvf.1 (pos_of hvf.2.2.1); exact h9) (fun _ => (.cons (.cons (.cons (.cons (.cons (.cons (.cons .nil))))))))) rfl (fun z9 => ?_)
                  refine at_nil (dr_next (fun _ => (by repeat first | exact sLn _ | apply sLc | apply sLd)) ?_)
                  refine dr_take 2 rfl (by kernel_rfl) (by repeat first | exact sLn _ | apply sLc | apply sLd) (pv_len Try.underlying22 rfl) rfl ?_
                  refine dr_take 6 rfl (by kernel_rfl) (by repeat first | exact sLn _ | apply sLc | apply sLd) (pv_lss rfl rfl) rfl ?_
                  refine dr_done (by kernel_rfl) ?_
                  refine ex_go ?_
                  refine cd_if rfl (fun hcyc => ?_) (fun hcyc => ?_)
                  · simp only [List.nil_append] at hcyc
                    refine cd_seq ?_
                    refine Cd.addNil 70 enc4 4 (.cons (.cons (.cons (.cons (.cons (.cons (.cons (.cons .nil)))))))) ?_
                    refine Cd.addNil 61 enc4 4 (.cons (.cons (.cons (.cons (.cons (.cons (.cons (.cons (.cons .nil))))))))) ?_
                    refine cd_region ?_
                    refine at_pure (pv_build rfl (bu_28_)) rfl ?_
                    refine at_turns (by exact turns_store sz_28 rfl rfl .agg rfl rfl (.s (.s .z)) (.rep (.rep .done)) (.s (.s .z))) ?_
                    refine at_pure (pv_assign rfl) rfl ?_
                    refine at_nil ?_
                    refine ex_go ?_
                    refine cd_ret ?_
                    refine ex_then_ret ?_
                    exact end_ct rfl (by exact Lies.box ag_28 rfl (.s (.s .z)) rfl) rfl (fun w hs => by first | (have he : conErr ns ls l = 1 := (by unfold conErr; rw [show validS ns ls = false by simpa using hb1]; rfl); have hN : conN ns ls l = [] := (by unfold conN; rw [he]; rfl); have hL : conL ns ls l = [] := (by unfold conL; rw [he]; rfl); exact Gives.mk' ((none, 0), (none, 0)) (by dsimp only; rw [hN, hL, he]; rfl) (by dsimp only; rw [hN, hL]; repeat first | exact sLn _ | apply sLc | apply sLd) hs) | (have he : conErr ns ls l = 7 := (by unfold conErr; rw [show validS ns ls = true by simpa using hb1]; rw [show ports ns l = false by simpa using hb2]; rfl); have hN : conN ns ls l = [] := (by unfold conN; rw [he]; rfl); have hL : conL ns ls l = [] := (by unfold conL; rw [he]; rfl); exact Gives.mk' ((none, 0), (none, 0)) (by dsimp only; rw [hN, hL, he]; rfl) (by dsimp only; rw [hN, hL]; repeat first | exact sLn _ | apply sLc | apply sLd) hs) | (have he : conErr ns ls l = 8 := (by unfold conErr; rw [show validS ns ls = true by simpa using hb1]; rw [show ports ns l = true by simpa using hb2]; rw [hb3]; rfl); have hN : conN ns ls l = [] := (by unfold conN; rw [he]; rfl); have hL : conL ns ls l = [] := (by unfold conL; rw [he]; rfl); exact Gives.mk' ((none, 0), (none, 0)) (by dsimp only; rw [hN, hL, he]; rfl) (by dsimp only; rw [hN, hL]; repeat first | exact sLn _ | apply sLc | apply sLd) hs) | (have he : conErr ns ls l = 3 := (by unfold conErr; rw [show validS ns ls = true by simpa using hb1]; rw [show ports ns l = true by simpa using hb2]; rw [hb3, hb4]; rfl); have hN : conN ns ls l = [] := (by unfold conN; rw [he]; rfl); have hL : conL ns ls l = [] := (by unfold conL; rw [he]; rfl); exact Gives.mk' ((none, 0), (none, 0)) (by dsimp only; rw [hN, hL, he]; rfl) (by dsimp only; rw [hN, hL]; repeat first | exact sLn _ | apply sLc | apply sLd) hs) | (have he : conErr ns ls l = 10 := (by unfold conErr; rw [show validS ns ls = true by simpa using hb1]; rw [show ports ns l = true by simpa using hb2]; rw [hb3, hb4, hb5]; rfl); have hN : conN ns ls l = [] := (by unfold conN; rw [he]; rfl); have hL : conL ns ls l = [] := (by unfold conL; rw [he]; rfl); exact Gives.mk' ((none, 0), (none, 0)) (by dsimp only; rw [hN, hL, he]; rfl) (by dsimp only; rw [hN, hL]; repeat first | exact sLn _ | apply sLc | apply sLd) hs) | (have he : conErr ns ls l = 12 := (by unfold conErr; rw [show validS ns ls = true by simpa using hb1]; rw [show ports ns l = true by simpa using hb2]; rw [hb3, hb4, hb5, ← hins, hcyc]; rfl); have hN : conN ns ls l = [] := (by unfold conN; rw [he]; rfl); have hL : conL ns ls l = [] := (by unfold conL; rw [he]; rfl); exact Gives.mk' ((none, 0), (none, 0)) (by dsimp only; rw [hN, hL, he]; rfl) (by dsimp only; rw [hN, hL]; repeat first | exact sLn _ | apply sLc | apply sLd) hs) | (have he : conErr ns ls l = 0 := (by unfold conErr; rw [show validS ns ls = true by simpa using hb1]; rw [show ports ns l = true by simpa using hb2]; rw [hb3, hb4, hb5, ← hins, hcyc]; rfl); have hN : conN ns ls l = ns := (by unfold conN; rw [he]; rfl); have hL : conL ns ls l = ls.take k ++ [l] ++ ls.drop k := (by unfold conL; rw [he]; exact hins.symm); exact Gives.mk' ((a5, c5), (a3, c3)) (by dsimp only; rw [hN, hL, he]; rfl) (by dsimp only; rw [hN, hL]; repeat first | exact sLn _ | apply sLc | apply sLd) hs))
                  · simp only [List.nil_append] at hcyc
                    refine cd_skip ?_
                    refine ex_go ?_
                    refine cd_seq ?_
                    refine cd_region ?_
                    refine at_pure (by exact pv_loads_box ag_28 rfl (.s (.s (.s (.s (.s (.s .z)))))) (.take (.take .done))) rfl ?_
                    refine at_turns (by exact turns_store sz_28 rfl rfl .agg rfl rfl (.s (.s .z)) (.rep (.rep .done)) (.s (.s .z))) ?_
                    refine at_pure (pv_assign rfl) rfl ?_
                    refine at_nil ?_
                    refine ex_go ?_
                    refine cd_ret ?_
                    exact end_ct rfl (by exact Lies.box ag_28 rfl (.s (.s .z)) rfl) rfl (fun w hs => by first | (have he : conErr ns ls l = 1 := (by unfold conErr; rw [show validS ns ls = false by simpa using hb1]; rfl); have hN : conN ns ls l = [] := (by unfold conN; rw [he]; rfl); have hL : conL ns ls l = [] := (by unfold conL; rw [he]; rfl); exact Gives.mk' ((none, 0), (none, 0)) (by dsimp only; rw [hN, hL, he]; rfl) (by dsimp only; rw [hN, hL]; repeat first | exact sLn _ | apply sLc | apply sLd) hs) | (have he : conErr ns ls l = 7 := (by unfold conErr; rw [show validS ns ls = true by simpa using hb1]; rw [show ports ns l = false by simpa using hb2]; rfl); have hN : conN ns ls l = [] := (by unfold conN; rw [he]; rfl); have hL : conL ns ls l = [] := (by unfold conL; rw [he]; rfl); exact Gives.mk' ((none, 0), (none, 0)) (by dsimp only; rw [hN, hL, he]; rfl) (by dsimp only; rw [hN, hL]; repeat first | exact sLn _ | apply sLc | apply sLd) hs) | (have he : conErr ns ls l = 8 := (by unfold conErr; rw [show validS ns ls = true by simpa using hb1]; rw [show ports ns l = true by simpa using hb2]; rw [hb3]; rfl); have hN : conN ns ls l = [] := (by unfold conN; rw [he]; rfl); have hL : conL ns ls l = [] := (by unfold conL; rw [he]; rfl); exact Gives.mk' ((none, 0), (none, 0)) (by dsimp only; rw [hN, hL, he]; rfl) (by dsimp only; rw [hN, hL]; repeat first | exact sLn _ | apply sLc | apply sLd) hs) | (have he : conErr ns ls l = 3 := (by unfold conErr; rw [show validS ns ls = true by simpa using hb1]; rw [show ports ns l = true by simpa using hb2]; rw [hb3, hb4]; rfl); have hN : conN ns ls l = [] := (by unfold conN; rw [he]; rfl); have hL : conL ns ls l = [] := (by unfold conL; rw [he]; rfl); exact Gives.mk' ((none, 0), (none, 0)) (by dsimp only; rw [hN, hL, he]; rfl) (by dsimp only; rw [hN, hL]; repeat first | exact sLn _ | apply sLc | apply sLd) hs) | (have he : conErr ns ls l = 10 := (by unfold conErr; rw [show validS ns ls = true by simpa using hb1]; rw [show ports ns l = true by simpa using hb2]; rw [hb3, hb4, hb5]; rfl); have hN : conN ns ls l = [] := (by unfold conN; rw [he]; rfl); have hL : conL ns ls l = [] := (by unfold conL; rw [he]; rfl); exact Gives.mk' ((none, 0), (none, 0)) (by dsimp only; rw [hN, hL, he]; rfl) (by dsimp only; rw [hN, hL]; repeat first | exact sLn _ | apply sLc | apply sLd) hs) | (have he : conErr ns ls l = 12 := (by unfold conErr; rw [show validS ns ls = true by simpa using hb1]; rw [show ports ns l = true by simpa using hb2]; rw [hb3, hb4, hb5, ← hins, hcyc]; rfl); have hN : conN ns ls l = [] := (by unfold conN; rw [he]; rfl); have hL : conL ns ls l = [] := (by unfold conL; rw [he]; rfl); exact Gives.mk' ((none, 0), (none, 0)) (by dsimp only; rw [hN, hL, he]; rfl) (by dsimp only; rw [hN, hL]; repeat first | exact sLn _ | apply sLc | apply sLd) hs) | (have he : conErr ns ls l = 0 := (by unfold conErr; rw [show validS ns ls = true by simpa using hb1]; rw [show ports ns l = true by simpa using hb2]; rw [hb3, hb4, hb5, ← hins, hcyc]; rfl); have hN : conN ns ls l = ns := (by unfold conN; rw [he]; rfl); have hL : conL ns ls l = ls.take k ++ [l] ++ ls.drop k := (by unfold conL; rw [he]; exact hins.symm); exact Gives.mk' ((a5, c5), (a3, c3)) (by dsimp only; rw [hN, hL, he]; rfl) (by dsimp only; rw [hN, hL]; repeat first | exact sLn _ | apply sLc | apply sLd) hs))
            · skip
              refine dr_skip 6 rfl rfl rfl hb6 (by kernel_rfl) (by repeat first | exact sLn _ | apply sLc | apply sLd) rfl ?_
              refine dr_skip 7 rfl rfl rfl hb6 (by kernel_rfl) (by repeat first | exact sLn _ | apply sLc | apply sLd) rfl ?_
              refine dr_skip 8 rfl rfl rfl hb6 (by kernel_rfl) (by repeat first | exact sLn _ | apply sLc | apply sLd) rfl ?_
              refine dr_skip 9 rfl rfl rfl hb6 (by kernel_rfl) (by repeat first | exact sLn _ | apply sLc | apply sLd) rfl ?_
              refine dr_skip 10 rfl rfl rfl hb6 (by kernel_rfl) (by repeat first | exact sLn _ | apply sLc | apply sLd) rfl ?_
              refine dr_skip 11 rfl rfl rfl hb6 (by kernel_rfl) (by repeat first | exact sLn _ | apply sLc | apply sLd) rfl ?_
              refine dr_skip 12 rfl rfl rfl hb6 (by kernel_rfl) (by repeat first | exact sLn _ | apply sLc | apply sLd) rfl ?_
              refine dr_take 13 rfl (by kernel_rfl) (by repeat first | exact sLn _ | apply sLc | apply sLd) (pv_pick_f rfl hb6 rfl) rfl ?_
              refine dr_done (by kernel_rfl) ?_
              refine ex_go ?_
              refine cd_else rfl rfl ?_
              refine cd_exit ?_
              refine ex_then_exit (ex_then_exit (ex_in (ex_go ?_)))
              refine cd_seq ?_
              have hst : ls.drop k = [] ∨ ∃ z, ls[k]? = some z ∧ less z l = false := by
                by_cases hkl : k < ls.length
                · exact .inr ⟨_, hat hkl, by first | assumption | (exfalso; simp only [decide_eq_false_iff_not] at *; omega)⟩
                · exact .inl (List.drop_eq_nil_of_le (by omega))
              have hins := insL_stop hq hst
              refine Cd.addNil 70 enc4 4 (.cons (.cons (.cons .nil))) ?_
              refine Cd.addNil 61 enc4 4 (.cons (.cons (.cons (.cons .nil)))) ?_
              refine cd_draw 13 [Box g1 [.slice a ns.length ca, .slice b ls.length cb] 28, Box g2 [.int .i64 l.1, .int .i64 l.2.1, .int .i64 l.2.2.1, .int .i64 l.2.2.2] 61] follows ?_
              refine dr_take 0 rfl (by kernel_rfl) (by repeat first | exact sLn _ | apply sLc | apply sLd) (pv_field0 fa_28_1 rfl (r := 1) rfl) rfl ?_
              refine dr_take 1 rfl (by kernel_rfl) (by repeat first | exact sLn _ | apply sLc | apply sLd) (by exact pv_load ld_26 rfl (box_cell .z (.s .z))) rfl ?_
              refine dr_take 2 rfl (by kernel_rfl) (by repeat first | exact sLn _ | apply sLc | apply sLd) (pv_move rfl) rfl ?_
              refine dr_take 3 rfl (by kernel_rfl) (by repeat first | exact sLn _ | apply sLc | apply sLd) (pv_cut_to Try.underlying26 cz_61 rfl rfl (by omega) (k := (ls.take k).length) (by rw [List.length_take]; omega)) rfl ?_
              refine dr_take 5 rfl (by kernel_rfl) (by repeat first | exact sLn _ | apply sLc | apply sLd) (by exact pv_loads_box ag_61 rfl (.s .z) (.take (.take (.take (.take .done))))) rfl ?_
              refine dr_take 8 rfl (by kernel_rfl) (by repeat first | exact sLn _ | apply sLc | apply sLd) (pv_field0 fa_28_1 rfl (r := 1) rfl) rfl ?_
              refine dr_take 9 rfl (by kernel_rfl) (by repeat first | exact sLn _ | apply sLc | apply sLd) (by exact pv_load ld_26 rfl (box_cell .z (.s .z))) rfl ?_
              refine dr_take 10 rfl (by kernel_rfl) (by repeat first | exact sLn _ | apply sLc | apply sLd) (pv_move rfl) rfl ?_
              refine dr_take 11 rfl (by kernel_rfl) (by repeat first | exact sLn _ | apply sLc | apply sLd) (pv_cut_from' Try.underlying26 cz_61 rfl rfl (by omega) (k := k) (by omega) (l := (ls.drop k).length) (by rw [List.length_drop])) rfl ?_
              refine dr_two 4 6 (by kernel_rfl) rfl rfl ?_ ?_
              · skip
                refine at_hands (does_app (ys := ls.take k) ⟨len4, by decide, one4⟩ Try.underlying26 ap_61 rfl rfl rfl (.s (.s (.s (.s .z)))) (fun w hs => (hl.take k).at' hs) (by rw [List.length_take]; simp; omega) hl.nil (fun _ _ => (.s (.s (.s (.s .z)))))) rfl (fun a1 c1 hr16 hc16 => ?_)
                refine at_nil (dr_next (fun _ => (by repeat first | exact sLn _ | apply sLc | apply sLd)) ?_)
                refine dr_one 6 (by kernel_rfl) rfl ?_
                refine at_does (does_list (by rfl) (by exact (bs_26_1_0 _ _ _ _)) (by exact (fun _ => (.cons (.cons (.cons (.cons (.cons .nil)))))))) rfl (fun g17 => ?_)
                refine at_nil (dr_next (fun _ => (by repeat first | exact sLn _ | apply sLc | apply sLd)) ?_)
                refine dr_one 7 (by kernel_rfl) rfl ?_
                refine at_hands (does_app (ys := [l]) ⟨len4, by decide, one4⟩ Try.underlying26 ap_61 rfl rfl rfl (.s (.s (.s (.s .z)))) (fun w hs => hs.box1 (enc := enc4) (z := l) (.s (.s (.s (.s (.s .z)))))) (by simp; omega) (by simp) (fun _ _ => (.s (.s (.s (.s .z)))))) rfl (fun a2 c2 hr18 hc18 => ?_)
                refine at_nil (dr_next (fun _ => (by repeat first | exact sLn _ | apply sLc | apply sLd)) ?_)
                refine dr_one 12 (by kernel_rfl) rfl ?_
                refine at_hands (does_app (ys := ls.drop k) ⟨len4, by decide, one4⟩ Try.underlying26 ap_61 rfl rfl rfl (.s (.s (.s (.s .z)))) (fun w hs => (hl.drop k hk).at' hs) (by simp; omega) (hl.drop k hk).nil (fun _ _ => (.s (.s (.s (.s .z)))))) rfl (fun a3 c3 hr19 hc19 => ?_)
                refine at_nil (dr_next (fun _ => (by repeat first | exact sLn _ | apply sLc | apply sLd)) ?_)
                refine dr_one 13 (by kernel_rfl) rfl ?_
                refine at_pure (pv_assign rfl) rfl ?_
                refine at_nil (dr_next (fun h => by cases h) ?_)
                refine dr_done (by kernel_rfl) ?_
                refine ex_go ?_
                refine cd_seq ?_
                refine cd_region ?_
                refine at_pure (pv_field0 fa_28_0 rfl (r := 0) rfl) rfl ?_
                refine at_pure (by exact pv_load ld_25 rfl (box_cell .z .z)) rfl ?_
                refine at_hands (does_app (ys := ns) ⟨len4, by decide, one4⟩ Try.underlying25 ap_70 rfl rfl rfl (.s (.s (.s .z))) (fun w hs => hn.at' hs) (by simp; omega) hn.nil (fun _ _ => (.s (.s (.s .z))))) rfl (fun a5 c5 hr20 hc20 => ?_)
                refine at_pure (pv_move rfl) rfl ?_
                refine at_pure (pv_build rfl (bu_28_0_1 _ _ _ _ _ _)) rfl ?_
                refine at_does (does_alloc ze_28 .agg (fun _ => (.cons (.cons (.cons (.cons (.cons (.cons .nil)))))))) rfl (fun g21 => ?_)
                refine at_turns (by exact turns_store sz_28 rfl rfl .agg rfl rfl (.s (.s (.s (.s (.s (.s .z)))))) (.rep (.rep .done)) (.s (.s (.s (.s (.s (.s .z))))))) ?_
                refine at_nil ?_
                refine ex_go ?_
                refine cd_seq ?_
                refine cd_seq ?_
                refine cd_draw' 7 follows ?_
                refine dr_take 0 rfl (by kernel_rfl) (.refl _) (by exact pv_loads_box ag_28 rfl (.s (.s (.s (.s (.s (.s .z)))))) (.take (.take .done))) rfl ?_
                refine dr_take 3 rfl (by kernel_rfl) (.refl _) (pv_field0 fa_28_0 rfl (r := 0) rfl) rfl ?_
                refine dr_take 4 rfl (by kernel_rfl) (.refl _) (by exact pv_load ld_25 rfl (box_cell (.s (.s (.s (.s (.s (.s .z)))))) .z)) rfl ?_
                refine dr_take 5 rfl (by kernel_rfl) (.refl _) (pv_len Try.underlying25 rfl) rfl ?_
                refine dr_one 1 (by kernel_rfl) rfl ?_
                refine at_does (does_gives (X := Option Addr × Nat) (val := fun z => .slice z.1 (orderS ns (ls.take k ++ [l] ++ ls.drop k)).length z.2) (Δ := fun z => [RowP enc1 1 3 z.1 z.2 (orderS ns (ls.take k ++ [l] ++ ls.drop k))]) cal69 rfl rfl rfl (fun w hs => by have h9 := order_ref a5 a3 c5 c3 ns (ls.take k ++ [l] ++ ls.drop k) w (hs.rows len4 (by decide) (.s (.s (.s .z)))) (hs.rows len4 (by decide) (.s (.s (.s (.s .z))))) hvf.1 (pos_of hvf.2.2.1); exact h9) (fun _ => (.cons (.cons (.cons (.cons (.cons (.cons (.cons .nil))))))))) rfl (fun z9 => ?_)
                refine at_nil (dr_next (fun _ => (by repeat first | exact sLn _ | apply sLc | apply sLd)) ?_)
                refine dr_take 2 rfl (by kernel_rfl) (by repeat first | exact sLn _ | apply sLc | apply sLd) (pv_len Try.underlying22 rfl) rfl ?_
                refine dr_take 6 rfl (by kernel_rfl) (by repeat first | exact sLn _ | apply sLc | apply sLd) (pv_lss rfl rfl) rfl ?_
                refine dr_done (by kernel_rfl) ?_
                refine ex_go ?_
                refine cd_if rfl (fun hcyc => ?_) (fun hcyc => ?_)
                · simp only [List.nil_append] at hcyc
                  refine cd_seq ?_
                  refine Cd.addNil 70 enc4 4 (.cons (.cons (.cons (.cons (.cons (.cons (.cons (.cons .nil)))))))) ?_
                  refine Cd.addNil 61 enc4 4 (.cons (.cons (.cons (.cons (.cons (.cons (.cons (.cons (.cons .nil))))))))) ?_
                  refine cd_region ?_
                  refine at_pure (pv_build rfl (bu_28_)) rfl ?_
                  refine at_turns (by exact turns_store sz_28 rfl rfl .agg rfl rfl (.s (.s .z)) (.rep (.rep .done)) (.s (.s .z))) ?_
                  refine at_pure (pv_assign rfl) rfl ?_
                  refine at_nil ?_
                  refine ex_go ?_
                  refine cd_ret ?_
                  refine ex_then_ret ?_
                  exact end_ct rfl (by exact Lies.box ag_28 rfl (.s (.s .z)) rfl) rfl (fun w hs => by first | (have he : conErr ns ls l = 1 := (by unfold conErr; rw [show validS ns ls = false by simpa using hb1]; rfl); have hN : conN ns ls l = [] := (by unfold conN; rw [he]; rfl); have hL : conL ns ls l = [] := (by unfold conL; rw [he]; rfl); exact Gives.mk' ((none, 0), (none, 0)) (by dsimp only; rw [hN, hL, he]; rfl) (by dsimp only; rw [hN, hL]; repeat first | exact sLn _ | apply sLc | apply sLd) hs) | (have he : conErr ns ls l = 7 := (by unfold conErr; rw [show validS ns ls = true by simpa using hb1]; rw [show ports ns l = false by simpa using hb2]; rfl); have hN : conN ns ls l = [] := (by unfold conN; rw [he]; rfl); have hL : conL ns ls l = [] := (by unfold conL; rw [he]; rfl); exact Gives.mk' ((none, 0), (none, 0)) (by dsimp only; rw [hN, hL, he]; rfl) (by dsimp only; rw [hN, hL]; repeat first | exact sLn _ | apply sLc | apply sLd) hs) | (have he : conErr ns ls l = 8 := (by unfold conErr; rw [show validS ns ls = true by simpa using hb1]; rw [show ports ns l = true by simpa using hb2]; rw [hb3]; rfl); have hN : conN ns ls l = [] := (by unfold conN; rw [he]; rfl); have hL : conL ns ls l = [] := (by unfold conL; rw [he]; rfl); exact Gives.mk' ((none, 0), (none, 0)) (by dsimp only; rw [hN, hL, he]; rfl) (by dsimp only; rw [hN, hL]; repeat first | exact sLn _ | apply sLc | apply sLd) hs) | (have he : conErr ns ls l = 3 := (by unfold conErr; rw [show validS ns ls = true by simpa using hb1]; rw [show ports ns l = true by simpa using hb2]; rw [hb3, hb4]; rfl); have hN : conN ns ls l = [] := (by unfold conN; rw [he]; rfl); have hL : conL ns ls l = [] := (by unfold conL; rw [he]; rfl); exact Gives.mk' ((none, 0), (none, 0)) (by dsimp only; rw [hN, hL, he]; rfl) (by dsimp only; rw [hN, hL]; repeat first | exact sLn _ | apply sLc | apply sLd) hs) | (have he : conErr ns ls l = 10 := (by unfold conErr; rw [show validS ns ls = true by simpa using hb1]; rw [show ports ns l = true by simpa using hb2]; rw [hb3, hb4, hb5]; rfl); have hN : conN ns ls l = [] := (by unfold conN; rw [he]; rfl); have hL : conL ns ls l = [] := (by unfold conL; rw [he]; rfl); exact Gives.mk' ((none, 0), (none, 0)) (by dsimp only; rw [hN, hL, he]; rfl) (by dsimp only; rw [hN, hL]; repeat first | exact sLn _ | apply sLc | apply sLd) hs) | (have he : conErr ns ls l = 12 := (by unfold conErr; rw [show validS ns ls = true by simpa using hb1]; rw [show ports ns l = true by simpa using hb2]; rw [hb3, hb4, hb5, ← hins, hcyc]; rfl); have hN : conN ns ls l = [] := (by unfold conN; rw [he]; rfl); have hL : conL ns ls l = [] := (by unfold conL; rw [he]; rfl); exact Gives.mk' ((none, 0), (none, 0)) (by dsimp only; rw [hN, hL, he]; rfl) (by dsimp only; rw [hN, hL]; repeat first | exact sLn _ | apply sLc | apply sLd) hs) | (have he : conErr ns ls l = 0 := (by unfold conErr; rw [show validS ns ls = true by simpa using hb1]; rw [show ports ns l = true by simpa using hb2]; rw [hb3, hb4, hb5, ← hins, hcyc]; rfl); have hN : conN ns ls l = ns := (by unfold conN; rw [he]; rfl); have hL : conL ns ls l = ls.take k ++ [l] ++ ls.drop k := (by unfold conL; rw [he]; exact hins.symm); exact Gives.mk' ((a5, c5), (a3, c3)) (by dsimp only; rw [hN, hL, he]; rfl) (by dsimp only; rw [hN, hL]; repeat first | exact sLn _ | apply sLc | apply sLd) hs))
                · simp only [List.nil_append] at hcyc
                  refine cd_skip ?_
                  refine ex_go ?_
                  refine cd_seq ?_
                  refine cd_region ?_
                  refine at_pure (by exact pv_loads_box ag_28 rfl (.s (.s (.s (.s (.s (.s .z)))))) (.take (.take .done))) rfl ?_
                  refine at_turns (by exact turns_store sz_28 rfl rfl .agg rfl rfl (.s (.s .z)) (.rep (.rep .done)) (.s (.s .z))) ?_
                  refine at_pure (pv_assign rfl) rfl ?_
                  refine at_nil ?_
                  refine ex_go ?_
                  refine cd_ret ?_
                  exact end_ct rfl (by exact Lies.box ag_28 rfl (.s (.s .z)) rfl) rfl (fun w hs => by first | (have he : conErr ns ls l = 1 := (by unfold conErr; rw [show validS ns ls = false by simpa using hb1]; rfl); have hN : conN ns ls l = [] := (by unfold conN; rw [he]; rfl); have hL : conL ns ls l = [] := (by unfold conL; rw [he]; rfl); exact Gives.mk' ((none, 0), (none, 0)) (by dsimp only; rw [hN, hL, he]; rfl) (by dsimp only; rw [hN, hL]; repeat first | exact sLn _ | apply sLc | apply sLd) hs) | (have he : conErr ns ls l = 7 := (by unfold conErr; rw [show validS ns ls = true by simpa using hb1]; rw [show ports ns l = false by simpa using hb2]; rfl); have hN : conN ns ls l = [] := (by unfold conN; rw [he]; rfl); have hL : conL ns ls l = [] := (by unfold conL; rw [he]; rfl); exact Gives.mk' ((none, 0), (none, 0)) (by dsimp only; rw [hN, hL, he]; rfl) (by dsimp only; rw [hN, hL]; repeat first | exact sLn _ | apply sLc | apply sLd) hs) | (have he : conErr ns ls l = 8 := (by unfold conErr; rw [show validS ns ls = true by simpa using hb1]; rw [show ports ns l = true by simpa using hb2]; rw [hb3]; rfl); have hN : conN ns ls l = [] := (by unfold conN; rw [he]; rfl); have hL : conL ns ls l = [] := (by unfold conL; rw [he]; rfl); exact Gives.mk' ((none, 0), (none, 0)) (by dsimp only; rw [hN, hL, he]; rfl) (by dsimp only; rw [hN, hL]; repeat first | exact sLn _ | apply sLc | apply sLd) hs) | (have he : conErr ns ls l = 3 := (by unfold conErr; rw [show validS ns ls = true by simpa using hb1]; rw [show ports ns l = true by simpa using hb2]; rw [hb3, hb4]; rfl); have hN : conN ns ls l = [] := (by unfold conN; rw [he]; rfl); have hL : conL ns ls l = [] := (by unfold conL; rw [he]; rfl); exact Gives.mk' ((none, 0), (none, 0)) (by dsimp only; rw [hN, hL, he]; rfl) (by dsimp only; rw [hN, hL]; repeat first | exact sLn _ | apply sLc | apply sLd) hs) | (have he : conErr ns ls l = 10 := (by unfold conErr; rw [show validS ns ls = true by simpa using hb1]; rw [show ports ns l = true by simpa using hb2]; rw [hb3, hb4, hb5]; rfl); have hN : conN ns ls l = [] := (by unfold conN; rw [he]; rfl); have hL : conL ns ls l = [] := (by unfold conL; rw [he]; rfl); exact Gives.mk' ((none, 0), (none, 0)) (by dsimp only; rw [hN, hL, he]; rfl) (by dsimp only; rw [hN, hL]; repeat first | exact sLn _ | apply sLc | apply sLd) hs) | (have he : conErr ns ls l = 12 := (by unfold conErr; rw [show validS ns ls = true by simpa using hb1]; rw [show ports ns l = true by simpa using hb2]; rw [hb3, hb4, hb5, ← hins, hcyc]; rfl); have hN : conN ns ls l = [] := (by unfold conN; rw [he]; rfl); have hL : conL ns ls l = [] := (by unfold conL; rw [he]; rfl); exact Gives.mk' ((none, 0), (none, 0)) (by dsimp only; rw [hN, hL, he]; rfl) (by dsimp only; rw [hN, hL]; repeat first | exact sLn _ | apply sLc | apply sLd) hs) | (have he : conErr ns ls l = 0 := (by unfold conErr; rw [show validS ns ls = true by simpa using hb1]; rw [show ports ns l = true by simpa using hb2]; rw [hb3, hb4, hb5, ← hins, hcyc]; rfl); have hN : conN ns ls l = ns := (by unfold conN; rw [he]; rfl); have hL : conL ns ls l = ls.take k ++ [l] ++ ls.drop k := (by unfold conL; rw [he]; exact hins.symm); exact Gives.mk' ((a5, c5), (a3, c3)) (by dsimp only; rw [hN, hL, he]; rfl) (by dsimp only; rw [hN, hL]; repeat first | exact sLn _ | apply sLc | apply sLd) hs))
              · skip
                refine at_does (does_list (by rfl) (by exact (bs_26_1_0 _ _ _ _)) (by exact (fun _ => (.cons (.cons (.cons (.cons (.cons .nil)))))))) rfl (fun g22 => ?_)
                refine at_nil (dr_next (fun _ => (by repeat first | exact sLn _ | apply sLc | apply sLd)) ?_)
                refine dr_one 4 (by kernel_rfl) rfl ?_
                refine at_hands (does_app (ys := ls.take k) ⟨len4, by decide, one4⟩ Try.underlying26 ap_61 rfl rfl rfl (.s (.s (.s (.s .z)))) (fun w hs => (hl.take k).at' hs) (by rw [List.length_take]; simp; omega) hl.nil (fun _ _ => (.s (.s (.s (.s .z)))))) rfl (fun a1 c1 hr23 hc23 => ?_)
                refine at_nil (dr_next (fun _ => (by repeat first | exact sLn _ | apply sLc | apply sLd)) ?_)
                refine dr_one 7 (by kernel_rfl) rfl ?_
                refine at_hands (does_app (ys := [l]) ⟨len4, by decide, one4⟩ Try.underlying26 ap_61 rfl rfl rfl (.s (.s (.s (.s .z)))) (fun w hs => hs.box1 (enc := enc4) (z := l) (.s (.s (.s (.s (.s .z)))))) (by simp; omega) (by simp) (fun _ _ => (.s (.s (.s (.s .z)))))) rfl (fun a2 c2 hr24 hc24 => ?_)
                refine at_nil (dr_next (fun _ => (by repeat first | exact sLn _ | apply sLc | apply sLd)) ?_)
                refine dr_one 12 (by kernel_rfl) rfl ?_
                refine at_hands (does_app (ys := ls.drop k) ⟨len4, by decide, one4⟩ Try.underlying26 ap_61 rfl rfl rfl (.s (.s (.s (.s .z)))) (fun w hs => (hl.drop k hk).at' hs) (by simp; omega) (hl.drop k hk).nil (fun _ _ => (.s (.s (.s (.s .z)))))) rfl (fun a3 c3 hr25 hc25 => ?_)
                refine at_nil (dr_next (fun _ => (by repeat first | exact sLn _ | apply sLc | apply sLd)) ?_)
                refine dr_one 13 (by kernel_rfl) rfl ?_
                refine at_pure (pv_assign rfl) rfl ?_
                refine at_nil (dr_next (fun h => by cases h) ?_)
                refine dr_done (by kernel_rfl) ?_
                refine ex_go ?_
                refine cd_seq ?_
                refine cd_region ?_
                refine at_pure (pv_field0 fa_28_0 rfl (r := 0) rfl) rfl ?_
                refine at_pure (by exact pv_load ld_25 rfl (box_cell .z .z)) rfl ?_
                refine at_hands (does_app (ys := ns) ⟨len4, by decide, one4⟩ Try.underlying25 ap_70 rfl rfl rfl (.s (.s (.s .z))) (fun w hs => hn.at' hs) (by simp; omega) hn.nil (fun _ _ => (.s (.s (.s .z))))) rfl (fun a5 c5 hr26 hc26 => ?_)
                refine at_pure (pv_move rfl) rfl ?_
                refine at_pure (pv_build rfl (bu_28_0_1 _ _ _ _ _ _)) rfl ?_
                refine at_does (does_alloc ze_28 .agg (fun _ => (.cons (.cons (.cons (.cons (.cons (.cons .nil)))))))) rfl (fun g27 => ?_)
                refine at_turns (by exact turns_store sz_28 rfl rfl .agg rfl rfl (.s (.s (.s (.s (.s (.s .z)))))) (.rep (.rep .done)) (.s (.s (.s (.s (.s (.s .z))))))) ?_
                refine at_nil ?_
                refine ex_go ?_
                refine cd_seq ?_
                refine cd_seq ?_
                refine cd_draw' 7 follows ?_
                refine dr_take 0 rfl (by kernel_rfl) (.refl _) (by exact pv_loads_box ag_28 rfl (.s (.s (.s (.s (.s (.s .z)))))) (.take (.take .done))) rfl ?_
                refine dr_take 3 rfl (by kernel_rfl) (.refl _) (pv_field0 fa_28_0 rfl (r := 0) rfl) rfl ?_
                refine dr_take 4 rfl (by kernel_rfl) (.refl _) (by exact pv_load ld_25 rfl (box_cell (.s (.s (.s (.s (.s (.s .z)))))) .z)) rfl ?_
                refine dr_take 5 rfl (by kernel_rfl) (.refl _) (pv_len Try.underlying25 rfl) rfl ?_
                refine dr_one 1 (by kernel_rfl) rfl ?_
                refine at_does (does_gives (X := Option Addr × Nat) (val := fun z => .slice z.1 (orderS ns (ls.take k ++ [l] ++ ls.drop k)).length z.2) (Δ := fun z => [RowP enc1 1 3 z.1 z.2 (orderS ns (ls.take k ++ [l] ++ ls.drop k))]) cal69 rfl rfl rfl (fun w hs => by have h9 := order_ref a5 a3 c5 c3 ns (ls.take k ++ [l] ++ ls.drop k) w (hs.rows len4 (by decide) (.s (.s (.s .z)))) (hs.rows len4 (by decide) (.s (.s (.s (.s .z))))) hvf.1 (pos_of hvf.2.2.1); exact h9) (fun _ => (.cons (.cons (.cons (.cons (.cons (.cons (.cons .nil))))))))) rfl (fun z9 => ?_)
                refine at_nil (dr_next (fun _ => (by repeat first | exact sLn _ | apply sLc | apply sLd)) ?_)
                refine dr_take 2 rfl (by kernel_rfl) (by repeat first | exact sLn _ | apply sLc | apply sLd) (pv_len Try.underlying22 rfl) rfl ?_
                refine dr_take 6 rfl (by kernel_rfl) (by repeat first | exact sLn _ | apply sLc | apply sLd) (pv_lss rfl rfl) rfl ?_
                refine dr_done (by kernel_rfl) ?_
                refine ex_go ?_
                refine cd_if rfl (fun hcyc => ?_) (fun hcyc => ?_)
                · simp only [List.nil_append] at hcyc
                  refine cd_seq ?_
                  refine Cd.addNil 70 enc4 4 (.cons (.cons (.cons (.cons (.cons (.cons (.cons (.cons .nil)))))))) ?_
                  refine Cd.addNil 61 enc4 4 (.cons (.cons (.cons (.cons (.cons (.cons (.cons (.cons (.cons .nil))))))))) ?_
                  refine cd_region ?_
                  refine at_pure (pv_build rfl (bu_28_)) rfl ?_
                  refine at_turns (by exact turns_store sz_28 rfl rfl .agg rfl rfl (.s (.s .z)) (.rep (.rep .done)) (.s (.s .z))) ?_
                  refine at_pure (pv_assign rfl) rfl ?_
                  refine at_nil ?_
                  refine ex_go ?_
                  refine cd_ret ?_
                  refine ex_then_ret ?_
                  exact end_ct rfl (by exact Lies.box ag_28 rfl (.s (.s .z)) rfl) rfl (fun w hs => by first | (have he : conErr ns ls l = 1 := (by unfold conErr; rw [show validS ns ls = false by simpa using hb1]; rfl); have hN : conN ns ls l = [] := (by unfold conN; rw [he]; rfl); have hL : conL ns ls l = [] := (by unfold conL; rw [he]; rfl); exact Gives.mk' ((none, 0), (none, 0)) (by dsimp only; rw [hN, hL, he]; rfl) (by dsimp only; rw [hN, hL]; repeat first | exact sLn _ | apply sLc | apply sLd) hs) | (have he : conErr ns ls l = 7 := (by unfold conErr; rw [show validS ns ls = true by simpa using hb1]; rw [show ports ns l = false by simpa using hb2]; rfl); have hN : conN ns ls l = [] := (by unfold conN; rw [he]; rfl); have hL : conL ns ls l = [] := (by unfold conL; rw [he]; rfl); exact Gives.mk' ((none, 0), (none, 0)) (by dsimp only; rw [hN, hL, he]; rfl) (by dsimp only; rw [hN, hL]; repeat first | exact sLn _ | apply sLc | apply sLd) hs) | (have he : conErr ns ls l = 8 := (by unfold conErr; rw [show validS ns ls = true by simpa using hb1]; rw [show ports ns l = true by simpa using hb2]; rw [hb3]; rfl); have hN : conN ns ls l = [] := (by unfold conN; rw [he]; rfl); have hL : conL ns ls l = [] := (by unfold conL; rw [he]; rfl); exact Gives.mk' ((none, 0), (none, 0)) (by dsimp only; rw [hN, hL, he]; rfl) (by dsimp only; rw [hN, hL]; repeat first | exact sLn _ | apply sLc | apply sLd) hs) | (have he : conErr ns ls l = 3 := (by unfold conErr; rw [show validS ns ls = true by simpa using hb1]; rw [show ports ns l = true by simpa using hb2]; rw [hb3, hb4]; rfl); have hN : conN ns ls l = [] := (by unfold conN; rw [he]; rfl); have hL : conL ns ls l = [] := (by unfold conL; rw [he]; rfl); exact Gives.mk' ((none, 0), (none, 0)) (by dsimp only; rw [hN, hL, he]; rfl) (by dsimp only; rw [hN, hL]; repeat first | exact sLn _ | apply sLc | apply sLd) hs) | (have he : conErr ns ls l = 10 := (by unfold conErr; rw [show validS ns ls = true by simpa using hb1]; rw [show ports ns l = true by simpa using hb2]; rw [hb3, hb4, hb5]; rfl); have hN : conN ns ls l = [] := (by unfold conN; rw [he]; rfl); have hL : conL ns ls l = [] := (by unfold conL; rw [he]; rfl); exact Gives.mk' ((none, 0), (none, 0)) (by dsimp only; rw [hN, hL, he]; rfl) (by dsimp only; rw [hN, hL]; repeat first | exact sLn _ | apply sLc | apply sLd) hs) | (have he : conErr ns ls l = 12 := (by unfold conErr; rw [show validS ns ls = true by simpa using hb1]; rw [show ports ns l = true by simpa using hb2]; rw [hb3, hb4, hb5, ← hins, hcyc]; rfl); have hN : conN ns ls l = [] := (by unfold conN; rw [he]; rfl); have hL : conL ns ls l = [] := (by unfold conL; rw [he]; rfl); exact Gives.mk' ((none, 0), (none, 0)) (by dsimp only; rw [hN, hL, he]; rfl) (by dsimp only; rw [hN, hL]; repeat first | exact sLn _ | apply sLc | apply sLd) hs) | (have he : conErr ns ls l = 0 := (by unfold conErr; rw [show validS ns ls = true by simpa using hb1]; rw [show ports ns l = true by simpa using hb2]; rw [hb3, hb4, hb5, ← hins, hcyc]; rfl); have hN : conN ns ls l = ns := (by unfold conN; rw [he]; rfl); have hL : conL ns ls l = ls.take k ++ [l] ++ ls.drop k := (by unfold conL; rw [he]; exact hins.symm); exact Gives.mk' ((a5, c5), (a3, c3)) (by dsimp only; rw [hN, hL, he]; rfl) (by dsimp only; rw [hN, hL]; repeat first | exact sLn _ | apply sLc | apply sLd) hs))
                · simp only [List.nil_append] at hcyc
                  refine cd_skip ?_
                  refine ex_go ?_
                  refine cd_seq ?_
                  refine cd_region ?_
                  refine at_pure (by exact pv_loads_box ag_28 rfl (.s (.s (.s (.s (.s (.s .z)))))) (.take (.take .done))) rfl ?_
                  refine at_turns (by exact turns_store sz_28 rfl rfl .agg rfl rfl (.s (.s .z)) (.rep (.rep .done)) (.s (.s .z))) ?_
                  refine at_pure (pv_assign rfl) rfl ?_
                  refine at_nil ?_
                  refine ex_go ?_
                  refine cd_ret ?_
                  exact end_ct rfl (by exact Lies.box ag_28 rfl (.s (.s .z)) rfl) rfl (fun w hs => by first | (have he : conErr ns ls l = 1 := (by unfold conErr; rw [show validS ns ls = false by simpa using hb1]; rfl); have hN : conN ns ls l = [] := (by unfold conN; rw [he]; rfl); have hL : conL ns ls l = [] := (by unfold conL; rw [he]; rfl); exact Gives.mk' ((none, 0), (none, 0)) (by dsimp only; rw [hN, hL, he]; rfl) (by dsimp only; rw [hN, hL]; repeat first | exact sLn _ | apply sLc | apply sLd) hs) | (have he : conErr ns ls l = 7 := (by unfold conErr; rw [show validS ns ls = true by simpa using hb1]; rw [show ports ns l = false by simpa using hb2]; rfl); have hN : conN ns ls l = [] := (by unfold conN; rw [he]; rfl); have hL : conL ns ls l = [] := (by unfold conL; rw [he]; rfl); exact Gives.mk' ((none, 0), (none, 0)) (by dsimp only; rw [hN, hL, he]; rfl) (by dsimp only; rw [hN, hL]; repeat first | exact sLn _ | apply sLc | apply sLd) hs) | (have he : conErr ns ls l = 8 := (by unfold conErr; rw [show validS ns ls = true by simpa using hb1]; rw [show ports ns l = true by simpa using hb2]; rw [hb3]; rfl); have hN : conN ns ls l = [] := (by unfold conN; rw [he]; rfl); have hL : conL ns ls l = [] := (by unfold conL; rw [he]; rfl); exact Gives.mk' ((none, 0), (none, 0)) (by dsimp only; rw [hN, hL, he]; rfl) (by dsimp only; rw [hN, hL]; repeat first | exact sLn _ | apply sLc | apply sLd) hs) | (have he : conErr ns ls l = 3 := (by unfold conErr; rw [show validS ns ls = true by simpa using hb1]; rw [show ports ns l = true by simpa using hb2]; rw [hb3, hb4]; rfl); have hN : conN ns ls l = [] := (by unfold conN; rw [he]; rfl); have hL : conL ns ls l = [] := (by unfold conL; rw [he]; rfl); exact Gives.mk' ((none, 0), (none, 0)) (by dsimp only; rw [hN, hL, he]; rfl) (by dsimp only; rw [hN, hL]; repeat first | exact sLn _ | apply sLc | apply sLd) hs) | (have he : conErr ns ls l = 10 := (by unfold conErr; rw [show validS ns ls = true by simpa using hb1]; rw [show ports ns l = true by simpa using hb2]; rw [hb3, hb4, hb5]; rfl); have hN : conN ns ls l = [] := (by unfold conN; rw [he]; rfl); have hL : conL ns ls l = [] := (by unfold conL; rw [he]; rfl); exact Gives.mk' ((none, 0), (none, 0)) (by dsimp only; rw [hN, hL, he]; rfl) (by dsimp only; rw [hN, hL]; repeat first | exact sLn _ | apply sLc | apply sLd) hs) | (have he : conErr ns ls l = 12 := (by unfold conErr; rw [show validS ns ls = true by simpa using hb1]; rw [show ports ns l = true by simpa using hb2]; rw [hb3, hb4, hb5, ← hins, hcyc]; rfl); have hN : conN ns ls l = [] := (by unfold conN; rw [he]; rfl); have hL : conL ns ls l = [] := (by unfold conL; rw [he]; rfl); exact Gives.mk' ((none, 0), (none, 0)) (by dsimp only; rw [hN, hL, he]; rfl) (by dsimp only; rw [hN, hL]; repeat first | exact sLn _ | apply sLc | apply sLd) hs) | (have he : conErr ns ls l = 0 := (by unfold conErr; rw [show validS ns ls = true by simpa using hb1]; rw [show ports ns l = true by simpa using hb2]; rw [hb3, hb4, hb5, ← hins, hcyc]; rfl); have hN : conN ns ls l = ns := (by unfold conN; rw [he]; rfl); have hL : conL ns ls l = ls.take k ++ [l] ++ ls.drop k := (by unfold conL; rw [he]; exact hins.symm); exact Gives.mk' ((a5, c5), (a3, c3)) (by dsimp only; rw [hN, hL, he]; rfl) (by dsimp only; rw [hN, hL]; repeat first | exact sLn _ | apply sLc | apply sLd) hs))

end Go.Proofs.Ytkejdfnpbkdllaa
