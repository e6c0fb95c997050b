/- The walks of the program's graph. -/
import Derived.Test.YtkejdfnpbkdllaaF25
import Derived.Test.YtkejdfnpbkdllaaR25b
set_option linter.unusedVariables false
set_option linter.unusedSimpArgs false
set_option maxRecDepth 20000
namespace Go.Proofs.Ytkejdfnpbkdllaa
open Go Go.RowKit Go.Proofs.YtkejdfnpbkdllaaV
abbrev fQ (z : Q4) : Value := .agg (enc4 z).toArray
theorem pv_mapgetQ {P : Program} {n : Nat} {L : List (Nat × Value)} {C : World → Prop} {t T e ty : TypeId} {x y : Operand} {g : Nat} {k : Int} {kv : List (Int × Q4)} (ht : P.underlying t = some (.map T e)) (hT : P.underlying T = some (.int .i64)) (hz : (P.info? e).bind (·.zero) = some (.agg #[.int .i64 0, .int .i64 0, .int .i64 0, .int .i64 0])) (hx : ev L x = some (.map (some g))) (hy : ev L y = some (.int .i64 k)) (hm : ∀ w, C w → MapAt fQ w g kv) :
    Pure P n L C (.lookup t x y false) ty (fQ ((mget kv k).getD (0, 0, 0, 0))) := pv_mapget (0, 0, 0, 0) ht hT hz hx hy hm rfl
theorem pv_mapgetQ2 {P : Program} {n : Nat} {L : List (Nat × Value)} {C : World → Prop} {t T e ty : TypeId} {x y : Operand} {g : Nat} {k : Int} {kv : List (Int × Q4)} (ht : P.underlying t = some (.map T e)) (hT : P.underlying T = some (.int .i64)) (hz : (P.info? e).bind (·.zero) = some (.agg #[.int .i64 0, .int .i64 0, .int .i64 0, .int .i64 0])) (hx : ev L x = some (.map (some g))) (hy : ev L y = some (.int .i64 k)) (hm : ∀ w, C w → MapAt fQ w g kv) :
    Pure P n L C (.lookup t x y true) ty (.tuple #[fQ ((mget kv k).getD (0, 0, 0, 0)), .bool (mget kv k).isSome]) := pv_mapget2 (0, 0, 0, 0) ht hT hz hx hy hm rfl
def cmpI (x y : Int) : Int := bif decide (x < y) then -1 else bif decide (y < x) then 1 else 0
def orI : List Int → Int
  | [] => 0
  | x :: xs => bif x != 0 then x else orI xs
theorem orI_step {xs : List Int} {k : Nat} {z : Int} (h : orI xs = orI (xs.drop k)) (hz : xs[k]? = some z) (h0 : (z != 0) = false) : orI xs = orI (xs.drop (k + 1)) := by
  rw [h, drop_of hz]
  conv => lhs; unfold orI
  rw [h0]; rfl
theorem orI_hit {xs : List Int} {k : Nat} {z : Int} (h : orI xs = orI (xs.drop k)) (hz : xs[k]? = some z) (h0 : (z != 0) = true) : orI xs = z := by
  rw [h, drop_of hz]
  unfold orI
  rw [h0]; rfl
def cmpL (x y : Q4) : Int := orI [cmpI x.1 y.1, cmpI x.2.1 y.2.1, cmpI x.2.2.1 y.2.2.1, cmpI x.2.2.2 y.2.2.2]
theorem cmpI_range (x y : Int) : (x < y ∧ cmpI x y = -1) ∨ (x = y ∧ cmpI x y = 0) ∨ (y < x ∧ cmpI x y = 1) := by
  unfold cmpI
  rcases Int.lt_trichotomy x y with h | h | h
  · exact .inl ⟨h, by rw [decide_eq_true h]; rfl⟩
  · exact .inr (.inl ⟨h, by rw [decide_eq_false (by omega), decide_eq_false (by omega)]; rfl⟩)
  · exact .inr (.inr ⟨h, by rw [decide_eq_false (by omega), decide_eq_true h]; rfl⟩)
theorem cmpL_less (x y : Q4) : decide (0 ≤ cmpL x y) = !less x y := by
  have key : ∀ a b c d : Int, (a = -1 ∨ a = 0 ∨ a = 1) → (b = -1 ∨ b = 0 ∨ b = 1) → (c = -1 ∨ c = 0 ∨ c = 1) → (d = -1 ∨ d = 0 ∨ d = 1) → (orI [a, b, c, d] < 0 ↔ a < 0 ∨ (a = 0 ∧ (b < 0 ∨ (b = 0 ∧ (c < 0 ∨ (c = 0 ∧ d < 0)))))) := by
    rintro a b c d (rfl | rfl | rfl) (rfl | rfl | rfl) (rfl | rfl | rfl) (rfl | rfl | rfl) <;> decide
  have h1 := cmpI_range x.1 y.1
  have h2 := cmpI_range x.2.1 y.2.1
  have h3 := cmpI_range x.2.2.1 y.2.2.1
  have h4 := cmpI_range x.2.2.2 y.2.2.2
  have hk := key _ _ _ _ (show cmpI x.1 y.1 = -1 ∨ cmpI x.1 y.1 = 0 ∨ cmpI x.1 y.1 = 1 by omega) (show cmpI x.2.1 y.2.1 = -1 ∨ cmpI x.2.1 y.2.1 = 0 ∨ cmpI x.2.1 y.2.1 = 1 by omega) (show cmpI x.2.2.1 y.2.2.1 = -1 ∨ cmpI x.2.2.1 y.2.2.1 = 0 ∨ cmpI x.2.2.1 y.2.2.1 = 1 by omega) (show cmpI x.2.2.2 y.2.2.2 = -1 ∨ cmpI x.2.2.2 y.2.2.2 = 0 ∨ cmpI x.2.2.2 y.2.2.2 = 1 by omega)
  have hl : less x y = true ↔ cmpL x y < 0 := by
    rw [less_iff]
    unfold cmpL
    rw [hk]
    omega
  cases hb : less x y
  · have : ¬ cmpL x y < 0 := fun e => by rw [hl.2 e] at hb; cases hb
    rw [decide_eq_true (by omega)]; rfl
  · have := hl.1 hb
    rw [decide_eq_false (by omega)]; rfl

theorem fine_go (z : Q4) (w : World) : Calls Try.prog 76 [.agg #[.int .i64 z.1, .int .i64 z.2.1, .int .i64 z.2.2.1, .int .i64 z.2.2.2]].toArray w (Val (.bool (fits z)) w) := by
  refine calls_body (n := 73) Try.func76 rfl rfl rfl (St.init _ []) ?_
  refine cd_seq ?_
  refine cd_region ?_
  refine at_does (does_box rfl .agg (fun _ => .nil)) rfl (fun g1 => ?_)
  refine at_pure (pv_assign rfl) rfl ?_
  refine at_nil ?_
  refine ex_go ?_
  refine cd_seq ?_
  refine cd_seq ?_
  refine cd_region ?_
  refine at_pure (pv_field0 fa_70_0 rfl (r := 0) rfl) rfl ?_
  refine at_pure (by exact pv_load ld_3 rfl (box_cell .z .z)) rfl ?_
  refine at_pure (pv_lss rfl rfl) rfl ?_
  refine at_pure (pv_move rfl) rfl ?_
  refine at_split 6 rfl (fun hb1 => ?_) (fun hb1 => ?_)
  · skip
    refine at_skip rfl rfl hb1 rfl ?_
    refine at_skip rfl rfl hb1 rfl ?_
    refine at_skip rfl rfl hb1 rfl ?_
    refine at_pure (pv_pick_t rfl hb1 rfl) rfl ?_
    refine at_nil ?_
    refine ex_go ?_
    refine cd_then rfl rfl ?_
    refine cd_seq ?_
    refine cd_region ?_
    refine at_pure (pv_assign rfl) rfl ?_
    refine at_nil ?_
    refine ex_go ?_
    refine cd_ret ?_
    refine ex_then_ret ?_
    exact end_ret1 rfl rfl (fun w hs => ⟨by clear hs; refine congrArg (fun b => Ending.returned (.bool b)) ?_; obtain ⟨i, k, p, q⟩ := z; simp only [fits]; first | (simp_all; done) | (simp_all; omega), hs.keep⟩)
  · skip
    refine at_pure_g rfl rfl hb1 (pv_field0 fa_70_0 rfl (r := 0) rfl) rfl ?_
    refine at_pure_g rfl rfl hb1 (by exact pv_load ld_3 rfl (box_cell .z .z)) rfl ?_
    refine at_pure_g rfl rfl hb1 (pv_gtr rfl rfl) rfl ?_
    refine at_pure (pv_pick_f rfl hb1 rfl) rfl ?_
    refine at_nil ?_
    refine ex_go ?_
    refine cd_if rfl (fun hb2 => ?_) (fun hb2 => ?_)
    · skip
      refine cd_seq ?_
      refine cd_region ?_
      refine at_pure (pv_assign rfl) rfl ?_
      refine at_nil ?_
      refine ex_go ?_
      refine cd_ret ?_
      refine ex_then_ret ?_
      exact end_ret1 rfl rfl (fun w hs => ⟨by clear hs; refine congrArg (fun b => Ending.returned (.bool b)) ?_; obtain ⟨i, k, p, q⟩ := z; simp only [fits]; first | (simp_all; done) | (simp_all; omega), hs.keep⟩)
    · skip
      refine cd_skip ?_
      refine ex_go ?_
      refine cd_seq ?_
      refine cd_seq ?_
      refine cd_region ?_
      refine at_pure (pv_field0 fa_70_1 rfl (r := 1) rfl) rfl ?_
      refine at_pure (by exact pv_load ld_3 rfl (box_cell .z (.s .z))) rfl ?_
      refine at_nil ?_
      refine ex_go ?_
      refine cd_block ?_
      refine cd_seq ?_
      refine cd_region ?_
      refine at_pure (pv_eql rfl rfl) rfl ?_
      refine at_pure (pv_assign rfl) rfl ?_
      refine at_nil ?_
      refine ex_go ?_
      refine cd_if rfl (fun hb3 => ?_) (fun hb3 => ?_)
      · skip
        refine cd_seq ?_
        refine cd_region ?_
        refine at_pure (pv_field0 fa_70_2 rfl (r := 2) rfl) rfl ?_
        refine at_pure (by exact pv_load ld_3 rfl (box_cell .z (.s (.s .z)))) rfl ?_
        refine at_pure (pv_eql rfl rfl) rfl ?_
        refine at_pure (pv_move rfl) rfl ?_
        refine at_split 18 rfl (fun hb4 => ?_) (fun hb4 => ?_)
        · skip
          refine at_pure_g rfl rfl hb4 (pv_field0 fa_70_3 rfl (r := 3) rfl) rfl ?_
          refine at_pure_g rfl rfl hb4 (by exact pv_load ld_3 rfl (box_cell .z (.s (.s (.s .z))))) rfl ?_
          refine at_pure_g rfl rfl hb4 (pv_eql rfl rfl) rfl ?_
          refine at_pure (pv_pick_t rfl hb4 rfl) rfl ?_
          refine at_pure (pv_assign rfl) rfl ?_
          refine at_nil ?_
          refine ex_go ?_
          refine cd_ret ?_
          refine ex_in_ret (ex_then_ret ?_)
          exact end_ret1 rfl rfl (fun w hs => ⟨by clear hs; refine congrArg (fun b => Ending.returned (.bool b)) ?_; obtain ⟨i, k, p, q⟩ := z; simp only [fits]; first | (simp_all; done) | (simp_all; omega), hs.keep⟩)
        · skip
          refine at_skip rfl rfl hb4 rfl ?_
          refine at_skip rfl rfl hb4 rfl ?_
          refine at_skip rfl rfl hb4 rfl ?_
          refine at_pure (pv_pick_f rfl hb4 rfl) rfl ?_
          refine at_pure (pv_assign rfl) rfl ?_
          refine at_nil ?_
          refine ex_go ?_
          refine cd_ret ?_
          refine ex_in_ret (ex_then_ret ?_)
          exact end_ret1 rfl rfl (fun w hs => ⟨by clear hs; refine congrArg (fun b => Ending.returned (.bool b)) ?_; obtain ⟨i, k, p, q⟩ := z; simp only [fits]; first | (simp_all; done) | (simp_all; omega), hs.keep⟩)
      · skip
        refine cd_seq ?_
        refine cd_region ?_
        refine at_pure (pv_eql rfl rfl) rfl ?_
        refine at_pure (pv_assign rfl) rfl ?_
        refine at_nil ?_
        refine ex_go ?_
        refine cd_if rfl (fun hb5 => ?_) (fun hb5 => ?_)
        · skip
          refine cd_seq ?_
          refine cd_region ?_
          refine at_pure (pv_field0 fa_70_2 rfl (r := 2) rfl) rfl ?_
          refine at_pure (by exact pv_load ld_3 rfl (box_cell .z (.s (.s .z)))) rfl ?_
          refine at_pure (pv_eql rfl rfl) rfl ?_
          refine at_pure (pv_move rfl) rfl ?_
          refine at_split 28 rfl (fun hb6 => ?_) (fun hb6 => ?_)
          · skip
            refine at_pure_g rfl rfl hb6 (pv_field0 fa_70_3 rfl (r := 3) rfl) rfl ?_
            refine at_pure_g rfl rfl hb6 (by exact pv_load ld_3 rfl (box_cell .z (.s (.s (.s .z))))) rfl ?_
            refine at_pure_g rfl rfl hb6 (pv_eql rfl rfl) rfl ?_
            refine at_pure (pv_pick_t rfl hb6 rfl) rfl ?_
            refine at_pure (pv_assign rfl) rfl ?_
            refine at_nil ?_
            refine ex_go ?_
            refine cd_ret ?_
            refine ex_in_ret (ex_then_ret ?_)
            exact end_ret1 rfl rfl (fun w hs => ⟨by clear hs; refine congrArg (fun b => Ending.returned (.bool b)) ?_; obtain ⟨i, k, p, q⟩ := z; simp only [fits]; first | (simp_all; done) | (simp_all; omega), hs.keep⟩)
          · skip
            refine at_skip rfl rfl hb6 rfl ?_
            refine at_skip rfl rfl hb6 rfl ?_
            refine at_skip rfl rfl hb6 rfl ?_
            refine at_pure (pv_pick_f rfl hb6 rfl) rfl ?_
            refine at_pure (pv_assign rfl) rfl ?_
            refine at_nil ?_
            refine ex_go ?_
            refine cd_ret ?_
            refine ex_in_ret (ex_then_ret ?_)
            exact end_ret1 rfl rfl (fun w hs => ⟨by clear hs; refine congrArg (fun b => Ending.returned (.bool b)) ?_; obtain ⟨i, k, p, q⟩ := z; simp only [fits]; first | (simp_all; done) | (simp_all; omega), hs.keep⟩)
        · skip
          refine cd_seq ?_
          refine cd_region ?_
          refine at_pure (pv_eql rfl rfl) rfl ?_
          refine at_pure (pv_assign rfl) rfl ?_
          refine at_nil ?_
          refine ex_go ?_
          refine cd_if rfl (fun hb7 => ?_) (fun hb7 => ?_)
          · skip
            refine cd_seq ?_
            refine cd_region ?_
            refine at_pure (pv_field0 fa_70_2 rfl (r := 2) rfl) rfl ?_
            refine at_pure (by exact pv_load ld_3 rfl (box_cell .z (.s (.s .z)))) rfl ?_
            refine at_pure (pv_geq rfl rfl) rfl ?_
            refine at_pure (pv_move rfl) rfl ?_
            refine at_split 38 rfl (fun hb8 => ?_) (fun hb8 => ?_)
            · skip
              refine at_pure_g rfl rfl hb8 (pv_field0 fa_70_2 rfl (r := 2) rfl) rfl ?_
              refine at_pure_g rfl rfl hb8 (by exact pv_load ld_3 rfl (box_cell .z (.s (.s .z)))) rfl ?_
              refine at_pure_g rfl rfl hb8 (pv_leq rfl rfl) rfl ?_
              refine at_pure (pv_pick_t rfl hb8 rfl) rfl ?_
              refine at_pure (pv_move rfl) rfl ?_
              refine at_split 43 rfl (fun hb9 => ?_) (fun hb9 => ?_)
              · skip
                refine at_pure_g rfl rfl hb9 (pv_field0 fa_70_3 rfl (r := 3) rfl) rfl ?_
                refine at_pure_g rfl rfl hb9 (by exact pv_load ld_3 rfl (box_cell .z (.s (.s (.s .z))))) rfl ?_
                refine at_pure_g rfl rfl hb9 (pv_eql rfl rfl) rfl ?_
                refine at_pure (pv_pick_t rfl hb9 rfl) rfl ?_
                refine at_pure (pv_assign rfl) rfl ?_
                refine at_nil ?_
                refine ex_go ?_
                refine cd_ret ?_
                refine ex_in_ret (ex_then_ret ?_)
                exact end_ret1 rfl rfl (fun w hs => ⟨by clear hs; refine congrArg (fun b => Ending.returned (.bool b)) ?_; obtain ⟨i, k, p, q⟩ := z; simp only [fits]; first | (simp_all; done) | (simp_all; omega), hs.keep⟩)
              · skip
                refine at_skip rfl rfl hb9 rfl ?_
                refine at_skip rfl rfl hb9 rfl ?_
                refine at_skip rfl rfl hb9 rfl ?_
                refine at_pure (pv_pick_f rfl hb9 rfl) rfl ?_
                refine at_pure (pv_assign rfl) rfl ?_
                refine at_nil ?_
                refine ex_go ?_
                refine cd_ret ?_
                refine ex_in_ret (ex_then_ret ?_)
                exact end_ret1 rfl rfl (fun w hs => ⟨by clear hs; refine congrArg (fun b => Ending.returned (.bool b)) ?_; obtain ⟨i, k, p, q⟩ := z; simp only [fits]; first | (simp_all; done) | (simp_all; omega), hs.keep⟩)
            · skip
              refine at_skip rfl rfl hb8 rfl ?_
              refine at_skip rfl rfl hb8 rfl ?_
              refine at_skip rfl rfl hb8 rfl ?_
              refine at_pure (pv_pick_f rfl hb8 rfl) rfl ?_
              refine at_pure (pv_move rfl) rfl ?_
              refine at_skip rfl rfl rfl rfl ?_
              refine at_skip rfl rfl rfl rfl ?_
              refine at_skip rfl rfl rfl rfl ?_
              refine at_pure (pv_pick_f rfl rfl rfl) rfl ?_
              refine at_pure (pv_assign rfl) rfl ?_
              refine at_nil ?_
              refine ex_go ?_
              refine cd_ret ?_
              refine ex_in_ret (ex_then_ret ?_)
              exact end_ret1 rfl rfl (fun w hs => ⟨by clear hs; refine congrArg (fun b => Ending.returned (.bool b)) ?_; obtain ⟨i, k, p, q⟩ := z; simp only [fits]; first | (simp_all; done) | (simp_all; omega), hs.keep⟩)
          · skip
            refine cd_seq ?_
            refine cd_region ?_
            refine at_pure (pv_eql rfl rfl) rfl ?_
            refine at_pure (pv_assign rfl) rfl ?_
            refine at_nil ?_
            refine ex_go ?_
            refine cd_if rfl (fun hb10 => ?_) (fun hb10 => ?_)
            · skip
              refine cd_seq ?_
              refine cd_region ?_
              refine at_pure (pv_field0 fa_70_2 rfl (r := 2) rfl) rfl ?_
              refine at_pure (by exact pv_load ld_3 rfl (box_cell .z (.s (.s .z)))) rfl ?_
              refine at_pure (pv_eql rfl rfl) rfl ?_
              refine at_pure (pv_move rfl) rfl ?_
              refine at_split 53 rfl (fun hb11 => ?_) (fun hb11 => ?_)
              · skip
                refine at_pure_g rfl rfl hb11 (pv_field0 fa_70_3 rfl (r := 3) rfl) rfl ?_
                refine at_pure_g rfl rfl hb11 (by exact pv_load ld_3 rfl (box_cell .z (.s (.s (.s .z))))) rfl ?_
                refine at_pure_g rfl rfl hb11 (pv_eql rfl rfl) rfl ?_
                refine at_pure (pv_pick_t rfl hb11 rfl) rfl ?_
                refine at_pure (pv_assign rfl) rfl ?_
                refine at_nil ?_
                refine ex_go ?_
                refine cd_ret ?_
                refine ex_in_ret (ex_then_ret ?_)
                exact end_ret1 rfl rfl (fun w hs => ⟨by clear hs; refine congrArg (fun b => Ending.returned (.bool b)) ?_; obtain ⟨i, k, p, q⟩ := z; simp only [fits]; first | (simp_all; done) | (simp_all; omega), hs.keep⟩)
              · skip
                refine at_skip rfl rfl hb11 rfl ?_
                refine at_skip rfl rfl hb11 rfl ?_
                refine at_skip rfl rfl hb11 rfl ?_
                refine at_pure (pv_pick_f rfl hb11 rfl) rfl ?_
                refine at_pure (pv_assign rfl) rfl ?_
                refine at_nil ?_
                refine ex_go ?_
                refine cd_ret ?_
                refine ex_in_ret (ex_then_ret ?_)
                exact end_ret1 rfl rfl (fun w hs => ⟨by clear hs; refine congrArg (fun b => Ending.returned (.bool b)) ?_; obtain ⟨i, k, p, q⟩ := z; simp only [fits]; first | (simp_all; done) | (simp_all; omega), hs.keep⟩)
            · skip
              refine cd_seq ?_
              refine cd_region ?_
              refine at_pure (pv_eql rfl rfl) rfl ?_
              refine at_pure (pv_assign rfl) rfl ?_
              refine at_nil ?_
              refine ex_go ?_
              refine cd_if rfl (fun hb12 => ?_) (fun hb12 => ?_)
              · skip
                refine cd_seq ?_
                refine cd_region ?_
                refine at_pure (pv_field0 fa_70_2 rfl (r := 2) rfl) rfl ?_
                refine at_pure (by exact pv_load ld_3 rfl (box_cell .z (.s (.s .z)))) rfl ?_
                refine at_pure (pv_eql rfl rfl) rfl ?_
                refine at_pure (pv_move rfl) rfl ?_
                refine at_split 63 rfl (fun hb13 => ?_) (fun hb13 => ?_)
                · skip
                  refine at_pure_g rfl rfl hb13 (pv_field0 fa_70_3 rfl (r := 3) rfl) rfl ?_
                  refine at_pure_g rfl rfl hb13 (by exact pv_load ld_3 rfl (box_cell .z (.s (.s (.s .z))))) rfl ?_
                  refine at_pure_g rfl rfl hb13 (pv_geq rfl rfl) rfl ?_
                  refine at_pure (pv_pick_t rfl hb13 rfl) rfl ?_
                  refine at_pure (pv_move rfl) rfl ?_
                  refine at_split 68 rfl (fun hb14 => ?_) (fun hb14 => ?_)
                  · skip
                    refine at_pure_g rfl rfl hb14 (pv_field0 fa_70_3 rfl (r := 3) rfl) rfl ?_
                    refine at_pure_g rfl rfl hb14 (by exact pv_load ld_3 rfl (box_cell .z (.s (.s (.s .z))))) rfl ?_
                    refine at_pure_g rfl rfl hb14 (pv_leq rfl rfl) rfl ?_
                    refine at_pure (pv_pick_t rfl hb14 rfl) rfl ?_
                    refine at_pure (pv_assign rfl) rfl ?_
                    refine at_nil ?_
                    refine ex_go ?_
                    refine cd_ret ?_
                    refine ex_in_ret (ex_then_ret ?_)
                    exact end_ret1 rfl rfl (fun w hs => ⟨by clear hs; refine congrArg (fun b => Ending.returned (.bool b)) ?_; obtain ⟨i, k, p, q⟩ := z; simp only [fits]; first | (simp_all; done) | (simp_all; omega), hs.keep⟩)
                  · skip
                    refine at_skip rfl rfl hb14 rfl ?_
                    refine at_skip rfl rfl hb14 rfl ?_
                    refine at_skip rfl rfl hb14 rfl ?_
                    refine at_pure (pv_pick_f rfl hb14 rfl) rfl ?_
                    refine at_pure (pv_assign rfl) rfl ?_
                    refine at_nil ?_
                    refine ex_go ?_
                    refine cd_ret ?_
                    refine ex_in_ret (ex_then_ret ?_)
                    exact end_ret1 rfl rfl (fun w hs => ⟨by clear hs; refine congrArg (fun b => Ending.returned (.bool b)) ?_; obtain ⟨i, k, p, q⟩ := z; simp only [fits]; first | (simp_all; done) | (simp_all; omega), hs.keep⟩)
                · skip
                  refine at_skip rfl rfl hb13 rfl ?_
                  refine at_skip rfl rfl hb13 rfl ?_
                  refine at_skip rfl rfl hb13 rfl ?_
                  refine at_pure (pv_pick_f rfl hb13 rfl) rfl ?_
                  refine at_pure (pv_move rfl) rfl ?_
                  refine at_skip rfl rfl rfl rfl ?_
                  refine at_skip rfl rfl rfl rfl ?_
                  refine at_skip rfl rfl rfl rfl ?_
                  refine at_pure (pv_pick_f rfl rfl rfl) rfl ?_
                  refine at_pure (pv_assign rfl) rfl ?_
                  refine at_nil ?_
                  refine ex_go ?_
                  refine cd_ret ?_
                  refine ex_in_ret (ex_then_ret ?_)
                  exact end_ret1 rfl rfl (fun w hs => ⟨by clear hs; refine congrArg (fun b => Ending.returned (.bool b)) ?_; obtain ⟨i, k, p, q⟩ := z; simp only [fits]; first | (simp_all; done) | (simp_all; omega), hs.keep⟩)
              · skip
                refine cd_skip ?_
                refine ex_in_normal (ex_go ?_)
                refine cd_seq ?_
                refine cd_region ?_
                refine at_pure (pv_assign rfl) rfl ?_
                refine at_nil ?_
                refine ex_go ?_
                refine cd_ret ?_
                exact end_ret1 rfl rfl (fun w hs => ⟨by clear hs; refine congrArg (fun b => Ending.returned (.bool b)) ?_; obtain ⟨i, k, p, q⟩ := z; simp only [fits]; first | (simp_all; done) | (simp_all; omega), hs.keep⟩)

theorem nan_go (x : Int) (w : World) : Calls Try.prog 75 [.int .i64 x].toArray w (Val (.bool false) w) := by
  refine calls_body (n := 6) Try.func75 rfl rfl rfl (St.init _ []) ?_
  refine cd_seq ?_
  refine cd_region ?_
  refine at_pure (pv_assign rfl) rfl ?_
  refine at_nil ?_
  refine ex_go ?_
  refine cd_seq ?_
  refine cd_region ?_
  refine at_pure (pv_move rfl) rfl ?_
  refine at_pure (pv_move rfl) rfl ?_
  refine at_pure (pv_neq_same rfl rfl) rfl ?_
  refine at_pure (pv_assign rfl) rfl ?_
  refine at_nil ?_
  refine ex_go ?_
  refine cd_ret ?_
  exact end_ret1 rfl rfl (fun w hs => Val.mk hs)

theorem cmp_go (x y : Int) (w : World) : Calls Try.prog 49 [.int .i64 x, .int .i64 y].toArray w (Val (.int .i64 (cmpI x y)) w) := by
  refine calls_body (n := 20) Try.func49 rfl rfl rfl (St.init _ []) ?_
  refine cd_seq ?_
  refine cd_region ?_
  refine at_pure (pv_assign rfl) rfl ?_
  refine at_nil ?_
  refine ex_go ?_
  refine cd_seq ?_
  refine cd_region ?_
  refine at_pure (pv_move rfl) rfl ?_
  refine at_does (does_val cal75 rfl rfl rfl (fun w hs => nan_go _ w)) rfl (fun _ => ?_)
  refine at_pure (pv_assign rfl) rfl ?_
  refine at_nil ?_
  refine ex_go ?_
  refine cd_seq ?_
  refine cd_region ?_
  refine at_pure (pv_move rfl) rfl ?_
  refine at_does (does_val cal75 rfl rfl rfl (fun w hs => nan_go _ w)) rfl (fun _ => ?_)
  refine at_pure (pv_assign rfl) rfl ?_
  refine at_nil ?_
  refine ex_go ?_
  refine cd_seq ?_
  refine cd_seq ?_
  refine cd_region ?_
  refine at_pure (pv_move rfl) rfl ?_
  refine at_nil ?_
  refine ex_go ?_
  refine cd_else rfl rfl ?_
  refine cd_skip ?_
  refine ex_go ?_
  refine cd_seq ?_
  refine cd_seq ?_
  refine cd_region ?_
  refine at_pure (pv_move rfl) rfl ?_
  refine at_nil ?_
  refine ex_go ?_
  refine cd_else rfl rfl ?_
  refine cd_skip ?_
  refine ex_go ?_
  refine cd_seq ?_
  refine cd_seq ?_
  refine cd_region ?_
  refine at_pure (pv_move rfl) rfl ?_
  refine at_pure (pv_move rfl) rfl ?_
  refine at_pure (pv_lss rfl rfl) rfl ?_
  refine at_nil ?_
  refine ex_go ?_
  refine cd_if rfl (fun hb1 => ?_) (fun hb1 => ?_)
  · skip
    refine cd_seq ?_
    refine cd_region ?_
    refine at_pure (pv_assign rfl) rfl ?_
    refine at_nil ?_
    refine ex_go ?_
    refine cd_ret ?_
    refine ex_then_ret ?_
    exact end_ret1 rfl rfl (fun w hs => ⟨by clear hs; refine congrArg (fun b => Ending.returned (.int .i64 b)) ?_; simp only [cmpI, cond_true, cond_false, *], hs.keep⟩)
  · skip
    refine cd_skip ?_
    refine ex_go ?_
    refine cd_seq ?_
    refine cd_seq ?_
    refine cd_region ?_
    refine at_pure (pv_move rfl) rfl ?_
    refine at_pure (pv_move rfl) rfl ?_
    refine at_pure (pv_gtr rfl rfl) rfl ?_
    refine at_nil ?_
    refine ex_go ?_
    refine cd_if rfl (fun hb2 => ?_) (fun hb2 => ?_)
    · skip
      refine cd_seq ?_
      refine cd_region ?_
      refine at_pure (pv_assign rfl) rfl ?_
      refine at_nil ?_
      refine ex_go ?_
      refine cd_ret ?_
      refine ex_then_ret ?_
      exact end_ret1 rfl rfl (fun w hs => ⟨by clear hs; refine congrArg (fun b => Ending.returned (.int .i64 b)) ?_; simp only [cmpI, cond_true, cond_false, *], hs.keep⟩)
    · skip
      refine cd_skip ?_
      refine ex_go ?_
      refine cd_seq ?_
      refine cd_region ?_
      refine at_pure (pv_assign rfl) rfl ?_
      refine at_nil ?_
      refine ex_go ?_
      refine cd_ret ?_
      exact end_ret1 rfl rfl (fun w hs => ⟨by clear hs; refine congrArg (fun b => Ending.returned (.int .i64 b)) ?_; simp only [cmpI, cond_true, cond_false, *], hs.keep⟩)

theorem or_go (c : Option Addr) (cc : Nat) (xs : List Int) (w : World) (hx : Sl [] enc1 1 w c cc xs) : Calls Try.prog 86 [.slice c xs.length cc].toArray w (Val (.int .i64 (orI xs)) w) := by
  refine calls_body (n := 18) Try.func86 rfl rfl rfl (St.init _ []) ?_
  refine cd_seq ?_
  refine cd_region ?_
  refine at_pure (pv_assign rfl) rfl ?_
  refine at_nil ?_
  refine ex_go ?_
  refine cd_seq ?_
  refine cd_region ?_
  refine at_pure (pv_assign rfl) rfl ?_
  refine at_nil ?_
  refine ex_go ?_
  refine cd_seq ?_
  refine cd_seq ?_
  refine cd_region ?_
  refine at_pure (pv_move rfl) rfl ?_
  refine at_pure (pv_len Try.underlying22 rfl) rfl ?_
  refine at_pure (pv_move rfl) rfl ?_
  refine at_nil ?_
  refine ex_go ?_
  refine cd_block ?_
  refine cd_loop (σ := Nat) (fun s => [(3, .int .i64 0), (6, .slice c xs.length cc), (7, .int .i64 xs.length), (8, .int .i64 (s : Int))]) (fun s => []) (fun s => s ≤ xs.length ∧ orI xs = orI (xs.drop s)) (fun s => xs.length - s) 0 ⟨Nat.zero_le _, rfl⟩ ⟨rfl, rfl, rfl, rfl, trivial⟩ (by repeat first | exact sLn _ | apply sLc | apply sLd) ?_
  rintro k ⟨hk, hq⟩
  refine cd_seq ?_
  refine cd_region ?_
  refine at_pure (pv_lss rfl rfl) rfl ?_
  refine at_nil ?_
  refine ex_go ?_
  refine cd_seq ?_
  refine cd_if rfl (fun hlt => ?_) (fun hlt => ?_)
  · skip
    refine cd_skip ?_
    refine ex_go ?_
    refine cd_seq ?_
    refine cd_block ?_
    refine cd_seq ?_
    have hkl : k < xs.length := by simpa using hlt
    obtain ⟨z, hz⟩ := get_of hkl
    have hsm := hx.sm
    refine cd_region ?_
    refine at_pure (pv_ix Try.underlying22 cz_3 rfl rfl (by first | omega | (simp only [decide_eq_true_eq, decide_eq_false_iff_not] at *; omega)) hx.real (k := k) (by omega)) rfl ?_
    refine at_pure (pv_elem0 ld_3 rfl (hx.get hz .z)) rfl ?_
    refine at_pure (pv_assign rfl) rfl ?_
    refine at_nil ?_
    refine ex_go ?_
    refine cd_seq ?_
    refine cd_region ?_
    refine at_pure (pv_move rfl) rfl ?_
    refine at_pure (pv_move rfl) rfl ?_
    refine at_pure (pv_neq rfl rfl) rfl ?_
    refine at_nil ?_
    refine ex_go ?_
    refine cd_if rfl (fun hf => ?_) (fun hf => ?_)
    · skip
      refine cd_seq ?_
      refine cd_region ?_
      refine at_pure (pv_move rfl) rfl ?_
      refine at_pure (pv_assign rfl) rfl ?_
      refine at_nil ?_
      refine ex_go ?_
      refine cd_ret ?_
      refine ex_in_ret (ex_then_ret (ex_then_ret (ex_in_ret (ex_then_ret ?_))))
      exact end_ret1 rfl rfl (fun w hs => ⟨by clear hs; refine congrArg (fun b => Ending.returned (.int .i64 b)) ?_; first | exact (orI_hit hq hz hf).symm | (rw [hq, List.drop_eq_nil_of_le (by simp at hlt; omega)]; rfl), hs.keep⟩)
    · skip
      refine cd_skip ?_
      refine ex_in_normal (ex_go ?_)
      refine cd_region ?_
      refine at_pure (by first | exact pv_add_n rfl rfl (by unfold In64; omega) | exact pv_add rfl rfl) rfl ?_
      refine at_pure (pv_move rfl) rfl ?_
      refine at_nil ?_
      exact ex_meet (k + 1) ⟨⟨by omega, orI_step hq hz hf⟩, by omega⟩ ⟨rfl, rfl, rfl, rfl, trivial⟩ (by repeat first | exact sLn _ | apply sLc | apply sLd)
  · skip
    refine cd_exit ?_
    refine ex_then_exit (ex_then_exit (ex_in (ex_go ?_)))
    refine cd_seq ?_
    refine cd_region ?_
    refine at_pure (pv_move rfl) rfl ?_
    refine at_pure (pv_assign rfl) rfl ?_
    refine at_nil ?_
    refine ex_go ?_
    refine cd_ret ?_
    exact end_ret1 rfl rfl (fun w hs => ⟨by clear hs; refine congrArg (fun b => Ending.returned (.int .i64 b)) ?_; first | exact (orI_hit hq hz hf).symm | (rw [hq, List.drop_eq_nil_of_le (by simp at hlt; omega)]; rfl), hs.keep⟩)

theorem compare_go (x y : Q4) (w : World) : Calls Try.prog 79 [.agg #[.int .i64 x.1, .int .i64 x.2.1, .int .i64 x.2.2.1, .int .i64 x.2.2.2], .agg #[.int .i64 y.1, .int .i64 y.2.1, .int .i64 y.2.2.1, .int .i64 y.2.2.2]].toArray w (Val (.int .i64 (cmpL x y)) w) := by
  refine calls_body (n := 27) Try.func79 rfl rfl rfl (St.init _ []) ?_
  refine cd_seq ?_
  refine cd_region ?_
  refine at_does (does_box rfl .agg (fun _ => .nil)) rfl (fun g1 => ?_)
  refine at_does (does_box rfl .agg (fun _ => (.cons .nil))) rfl (fun g2 => ?_)
  refine at_pure (pv_assign rfl) rfl ?_
  refine at_nil ?_
  refine ex_go ?_
  refine cd_seq ?_
  refine cd_draw' 22 follows ?_
  refine dr_take 0 rfl (by kernel_rfl) (.refl _) (pv_field0 fa_61_0 rfl (r := 0) rfl) rfl ?_
  refine dr_take 1 rfl (by kernel_rfl) (.refl _) (by exact pv_load ld_3 rfl (box_cell .z .z)) rfl ?_
  refine dr_take 2 rfl (by kernel_rfl) (.refl _) (pv_field0 fa_61_0 rfl (r := 0) rfl) rfl ?_
  refine dr_take 3 rfl (by kernel_rfl) (.refl _) (by exact pv_load ld_3 rfl (box_cell (.s .z) .z)) rfl ?_
  refine dr_take 5 rfl (by kernel_rfl) (.refl _) (pv_field0 fa_61_1 rfl (r := 1) rfl) rfl ?_
  refine dr_take 6 rfl (by kernel_rfl) (.refl _) (by exact pv_load ld_3 rfl (box_cell .z (.s .z))) rfl ?_
  refine dr_take 7 rfl (by kernel_rfl) (.refl _) (pv_field0 fa_61_1 rfl (r := 1) rfl) rfl ?_
  refine dr_take 8 rfl (by kernel_rfl) (.refl _) (by exact pv_load ld_3 rfl (box_cell (.s .z) (.s .z))) rfl ?_
  refine dr_take 10 rfl (by kernel_rfl) (.refl _) (pv_field0 fa_61_2 rfl (r := 2) rfl) rfl ?_
  refine dr_take 11 rfl (by kernel_rfl) (.refl _) (by exact pv_load ld_3 rfl (box_cell .z (.s (.s .z)))) rfl ?_
  refine dr_take 12 rfl (by kernel_rfl) (.refl _) (pv_field0 fa_61_2 rfl (r := 2) rfl) rfl ?_
  refine dr_take 13 rfl (by kernel_rfl) (.refl _) (by exact pv_load ld_3 rfl (box_cell (.s .z) (.s (.s .z)))) rfl ?_
  refine dr_take 15 rfl (by kernel_rfl) (.refl _) (pv_field0 fa_61_3 rfl (r := 3) rfl) rfl ?_
  refine dr_take 16 rfl (by kernel_rfl) (.refl _) (by exact pv_load ld_3 rfl (box_cell .z (.s (.s (.s .z))))) rfl ?_
  refine dr_take 17 rfl (by kernel_rfl) (.refl _) (pv_field0 fa_61_3 rfl (r := 3) rfl) rfl ?_
  refine dr_take 18 rfl (by kernel_rfl) (.refl _) (by exact pv_load ld_3 rfl (box_cell (.s .z) (.s (.s (.s .z))))) rfl ?_
  refine dr_one 4 (by kernel_rfl) rfl ?_
  refine at_does (does_val cal49 rfl rfl rfl (fun w hs => cmp_go _ _ w)) rfl (fun _ => ?_)
  refine at_nil (dr_next (fun _ => (.refl _)) ?_)
  refine dr_one 9 (by kernel_rfl) rfl ?_
  refine at_does (does_val cal49 rfl rfl rfl (fun w hs => cmp_go _ _ w)) rfl (fun _ => ?_)
  refine at_nil (dr_next (fun _ => (.refl _)) ?_)
  refine dr_one 14 (by kernel_rfl) rfl ?_
  refine at_does (does_val cal49 rfl rfl rfl (fun w hs => cmp_go _ _ w)) rfl (fun _ => ?_)
  refine at_nil (dr_next (fun _ => (.refl _)) ?_)
  refine dr_one 19 (by kernel_rfl) rfl ?_
  refine at_does (does_val cal49 rfl rfl rfl (fun w hs => cmp_go _ _ w)) rfl (fun _ => ?_)
  refine at_nil (dr_next (fun _ => (.refl _)) ?_)
  refine dr_one 20 (by kernel_rfl) rfl ?_
  refine at_does (does_list (by rfl) (by exact (bs_22_4_0_1_2_3 _ _ _ _)) (by exact (fun _ => (.cons (.cons .nil))))) rfl (fun g3 => ?_)
  refine at_nil (dr_next (fun _ => (by repeat first | exact sLn _ | apply sLc | apply sLd)) ?_)
  refine dr_one 21 (by kernel_rfl) rfl ?_
  refine at_does (does_val cal86 rfl rfl rfl (fun w hs => or_go _ _ [cmpI x.1 y.1, cmpI x.2.1 y.2.1, cmpI x.2.2.1 y.2.2.1, cmpI x.2.2.2 y.2.2.2] w (hs.boxes (xs := [cmpI x.1 y.1, cmpI x.2.1 y.2.1, cmpI x.2.2.1 y.2.2.1, cmpI x.2.2.2 y.2.2.2]) len1 (.s (.s .z)) rfl (by simp)))) rfl (fun _ => ?_)
  refine at_nil (dr_next (fun _ => (by repeat first | exact sLn _ | apply sLc | apply sLd)) ?_)
  refine dr_one 22 (by kernel_rfl) rfl ?_
  refine at_pure (pv_assign rfl) rfl ?_
  refine at_nil (dr_next (fun h => by cases h) ?_)
  refine dr_done (by kernel_rfl) ?_
  refine ex_go ?_
  refine cd_ret ?_
  exact end_ret1 rfl rfl (fun w hs => Val.mk hs)

theorem nodeD_no {ns : List Q4} {i : Int} (h : hasN ns i = false) : nodeD ns i = (0, 0, 0, 0) := by
  unfold hasN at h
  unfold nodeD
  cases hl : look ns i with
  | none => rfl
  | some z => rw [hl] at h; cases h
theorem ports_short (ns : List Q4) (l : Q4) : ports ns l = (decide (0 ≤ l.2.1) && decide (l.2.1 < (nodeD ns l.1).2.2.2) && decide (0 ≤ l.2.2.2) && decide (l.2.2.2 < (nodeD ns l.2.2.1).2.2.1)) := by
  unfold ports
  cases h1 : hasN ns l.1
  · rw [nodeD_no h1, Bool.eq_iff_iff]; simp <;> omega
  · cases h2 : hasN ns l.2.2.1
    · rw [nodeD_no h2, Bool.eq_iff_iff]; simp <;> omega
    · simp
theorem clash_flip (ns : List Q4) (x l : Q4) : clash ns x l = ((x.2.2.1 == l.2.2.1 && x.2.2.2 == l.2.2.2 && (nodeD ns x.2.2.1).2.1 != 3) || (x.1 == l.1 && x.2.1 == l.2.1 && (nodeD ns x.1).2.1 != 5 && (nodeD ns x.1).2.1 != 1)) := by
  unfold clash
  by_cases h1 : x.2.2.1 = l.2.2.1
  · by_cases h2 : x.1 = l.1
    · rw [h1, h2]
    · rw [h1, beq_eq_false_iff_ne.2 h2]; simp
  · by_cases h2 : x.1 = l.1
    · rw [h2, beq_eq_false_iff_ne.2 h1]; simp
    · rw [beq_eq_false_iff_ne.2 h1, beq_eq_false_iff_ne.2 h2]; simp
def nodeMap (ns : List Q4) : List (Int × Q4) := ns.foldl (fun kv z => mset kv z.1 z) []

theorem ends_go (ns : List Q4) (g : Nat) (kv : List (Int × Q4)) (l : Q4) (w : World) (hm : MapAt fQ w g kv) (hnd : ∀ i, (mget kv i).getD (0, 0, 0, 0) = nodeD ns i) : Calls Try.prog 78 [.map (some g), .agg #[.int .i64 l.1, .int .i64 l.2.1, .int .i64 l.2.2.1, .int .i64 l.2.2.2]].toArray w (Val (.bool (ports ns l)) w) := by
  refine calls_body (n := 33) Try.func78 rfl rfl rfl (St.init _ []) ?_
  refine cd_seq ?_
  refine cd_region ?_
  refine at_does (does_box rfl .agg (fun _ => .nil)) rfl (fun g1 => ?_)
  refine at_pure (pv_assign rfl) rfl ?_
  refine at_nil ?_
  refine ex_go ?_
  refine cd_seq ?_
  refine cd_region ?_
  refine at_pure (pv_field0 fa_61_1 rfl (r := 1) rfl) rfl ?_
  refine at_pure (by exact pv_load ld_3 rfl (box_cell .z (.s .z))) rfl ?_
  refine at_pure (pv_geq rfl rfl) rfl ?_
  refine at_pure (pv_move rfl) rfl ?_
  refine at_split 8 rfl (fun hb1 => ?_) (fun hb1 => ?_)
  · skip
    refine at_pure_g rfl rfl hb1 (pv_field0 fa_61_1 rfl (r := 1) rfl) rfl ?_
    refine at_pure_g rfl rfl hb1 (by exact pv_load ld_3 rfl (box_cell .z (.s .z))) rfl ?_
    refine at_pure_g rfl rfl hb1 (pv_move rfl) rfl ?_
    refine at_pure_g rfl rfl hb1 (pv_field0 fa_61_0 rfl (r := 0) rfl) rfl ?_
    refine at_pure_g rfl rfl hb1 (by exact pv_load ld_3 rfl (box_cell .z .z)) rfl ?_
    refine at_pure_g rfl rfl hb1 (pv_mapgetQ Try.underlying117 Try.underlying3 ze_70 rfl rfl (MapAt.old hm (by simp))) rfl ?_
    refine at_pure_g rfl rfl hb1 (pv_field f1_70_3 rfl (.s (.s (.s .z)))) rfl ?_
    refine at_pure_g rfl rfl hb1 (pv_lss rfl rfl) rfl ?_
    refine at_pure (pv_pick_t rfl hb1 rfl) rfl ?_
    refine at_pure (pv_move rfl) rfl ?_
    refine at_split 18 rfl (fun hb2 => ?_) (fun hb2 => ?_)
    · skip
      refine at_pure_g rfl rfl hb2 (pv_field0 fa_61_3 rfl (r := 3) rfl) rfl ?_
      refine at_pure_g rfl rfl hb2 (by exact pv_load ld_3 rfl (box_cell .z (.s (.s (.s .z))))) rfl ?_
      refine at_pure_g rfl rfl hb2 (pv_geq rfl rfl) rfl ?_
      refine at_pure (pv_pick_t rfl hb2 rfl) rfl ?_
      refine at_pure (pv_move rfl) rfl ?_
      refine at_split 23 rfl (fun hb3 => ?_) (fun hb3 => ?_)
      · skip
        refine at_pure_g rfl rfl hb3 (pv_field0 fa_61_3 rfl (r := 3) rfl) rfl ?_
        refine at_pure_g rfl rfl hb3 (by exact pv_load ld_3 rfl (box_cell .z (.s (.s (.s .z))))) rfl ?_
        refine at_pure_g rfl rfl hb3 (pv_move rfl) rfl ?_
        refine at_pure_g rfl rfl hb3 (pv_field0 fa_61_2 rfl (r := 2) rfl) rfl ?_
        refine at_pure_g rfl rfl hb3 (by exact pv_load ld_3 rfl (box_cell .z (.s (.s .z)))) rfl ?_
        refine at_pure_g rfl rfl hb3 (pv_mapgetQ Try.underlying117 Try.underlying3 ze_70 rfl rfl (MapAt.old hm (by simp))) rfl ?_
        refine at_pure_g rfl rfl hb3 (pv_field f1_70_2 rfl (.s (.s .z))) rfl ?_
        refine at_pure_g rfl rfl hb3 (pv_lss rfl rfl) rfl ?_
        refine at_pure (pv_pick_t rfl hb3 rfl) rfl ?_
        refine at_pure (pv_assign rfl) rfl ?_
        refine at_nil ?_
        refine ex_go ?_
        refine cd_ret ?_
        exact end_ret1 rfl rfl (fun w hs => ⟨by clear hs; refine congrArg (fun b => Ending.returned (.bool b)) ?_; rw [ports_short]; (try simp only [hnd] at *); simp only [Bool.and_true, Bool.true_and, Bool.and_false, Bool.false_and, *], hs.keep⟩)
      · skip
        refine at_skip rfl rfl hb3 rfl ?_
        refine at_skip rfl rfl hb3 rfl ?_
        refine at_skip rfl rfl hb3 rfl ?_
        refine at_skip rfl rfl hb3 rfl ?_
        refine at_skip rfl rfl hb3 rfl ?_
        refine at_skip rfl rfl hb3 rfl ?_
        refine at_skip rfl rfl hb3 rfl ?_
        refine at_skip rfl rfl hb3 rfl ?_
        refine at_pure (pv_pick_f rfl hb3 rfl) rfl ?_
        refine at_pure (pv_assign rfl) rfl ?_
        refine at_nil ?_
        refine ex_go ?_
        refine cd_ret ?_
        exact end_ret1 rfl rfl (fun w hs => ⟨by clear hs; refine congrArg (fun b => Ending.returned (.bool b)) ?_; rw [ports_short]; (try simp only [hnd] at *); simp only [Bool.and_true, Bool.true_and, Bool.and_false, Bool.false_and, *], hs.keep⟩)
    · skip
      refine at_skip rfl rfl hb2 rfl ?_
      refine at_skip rfl rfl hb2 rfl ?_
      refine at_skip rfl rfl hb2 rfl ?_
      refine at_pure (pv_pick_f rfl hb2 rfl) rfl ?_
      refine at_pure (pv_move rfl) rfl ?_
      refine at_skip rfl rfl rfl rfl ?_
      refine at_skip rfl rfl rfl rfl ?_
      refine at_skip rfl rfl rfl rfl ?_
      refine at_skip rfl rfl rfl rfl ?_
      refine at_skip rfl rfl rfl rfl ?_
      refine at_skip rfl rfl rfl rfl ?_
      refine at_skip rfl rfl rfl rfl ?_
      refine at_skip rfl rfl rfl rfl ?_
      refine at_pure (pv_pick_f rfl rfl rfl) rfl ?_
      refine at_pure (pv_assign rfl) rfl ?_
      refine at_nil ?_
      refine ex_go ?_
      refine cd_ret ?_
      exact end_ret1 rfl rfl (fun w hs => ⟨by clear hs; refine congrArg (fun b => Ending.returned (.bool b)) ?_; rw [ports_short]; (try simp only [hnd] at *); simp only [Bool.and_true, Bool.true_and, Bool.and_false, Bool.false_and, *], hs.keep⟩)
  · skip
    refine at_skip rfl rfl hb1 rfl ?_
    refine at_skip rfl rfl hb1 rfl ?_
    refine at_skip rfl rfl hb1 rfl ?_
    refine at_skip rfl rfl hb1 rfl ?_
    refine at_skip rfl rfl hb1 rfl ?_
    refine at_skip rfl rfl hb1 rfl ?_
    refine at_skip rfl rfl hb1 rfl ?_
    refine at_skip rfl rfl hb1 rfl ?_
    refine at_pure (pv_pick_f rfl hb1 rfl) rfl ?_
    refine at_pure (pv_move rfl) rfl ?_
    refine at_skip rfl rfl rfl rfl ?_
    refine at_skip rfl rfl rfl rfl ?_
    refine at_skip rfl rfl rfl rfl ?_
    refine at_pure (pv_pick_f rfl rfl rfl) rfl ?_
    refine at_pure (pv_move rfl) rfl ?_
    refine at_skip rfl rfl rfl rfl ?_
    refine at_skip rfl rfl rfl rfl ?_
    refine at_skip rfl rfl rfl rfl ?_
    refine at_skip rfl rfl rfl rfl ?_
    refine at_skip rfl rfl rfl rfl ?_
    refine at_skip rfl rfl rfl rfl ?_
    refine at_skip rfl rfl rfl rfl ?_
    refine at_skip rfl rfl rfl rfl ?_
    refine at_pure (pv_pick_f rfl rfl rfl) rfl ?_
    refine at_pure (pv_assign rfl) rfl ?_
    refine at_nil ?_
    refine ex_go ?_
    refine cd_ret ?_
    exact end_ret1 rfl rfl (fun w hs => ⟨by clear hs; refine congrArg (fun b => Ending.returned (.bool b)) ?_; rw [ports_short]; (try simp only [hnd] at *); simp only [Bool.and_true, Bool.true_and, Bool.and_false, Bool.false_and, *], hs.keep⟩)

theorem clash_go (ns : List Q4) (g : Nat) (kv : List (Int × Q4)) (x l : Q4) (w : World) (hm : MapAt fQ w g kv) (hnd : ∀ i, (mget kv i).getD (0, 0, 0, 0) = nodeD ns i) : Calls Try.prog 80 [.map (some g), .agg #[.int .i64 x.1, .int .i64 x.2.1, .int .i64 x.2.2.1, .int .i64 x.2.2.2], .agg #[.int .i64 l.1, .int .i64 l.2.1, .int .i64 l.2.2.1, .int .i64 l.2.2.2]].toArray w (Val (.bool (clash ns x l)) w) := by
  refine calls_body (n := 61) Try.func80 rfl rfl rfl (St.init _ []) ?_
  refine cd_seq ?_
  refine cd_region ?_
  refine at_does (does_box rfl .agg (fun _ => .nil)) rfl (fun g1 => ?_)
  refine at_does (does_box rfl .agg (fun _ => (.cons .nil))) rfl (fun g2 => ?_)
  refine at_pure (pv_assign rfl) rfl ?_
  refine at_nil ?_
  refine ex_go ?_
  refine cd_seq ?_
  refine cd_region ?_
  refine at_pure (pv_field0 fa_61_2 rfl (r := 2) rfl) rfl ?_
  refine at_pure (by exact pv_load ld_3 rfl (box_cell .z (.s (.s .z)))) rfl ?_
  refine at_pure (pv_field0 fa_61_2 rfl (r := 2) rfl) rfl ?_
  refine at_pure (by exact pv_load ld_3 rfl (box_cell (.s .z) (.s (.s .z)))) rfl ?_
  refine at_pure (pv_eql rfl rfl) rfl ?_
  refine at_pure (pv_move rfl) rfl ?_
  refine at_split 14 rfl (fun hb1 => ?_) (fun hb1 => ?_)
  · skip
    refine at_pure_g rfl rfl hb1 (pv_field0 fa_61_3 rfl (r := 3) rfl) rfl ?_
    refine at_pure_g rfl rfl hb1 (by exact pv_load ld_3 rfl (box_cell .z (.s (.s (.s .z))))) rfl ?_
    refine at_pure_g rfl rfl hb1 (pv_field0 fa_61_3 rfl (r := 3) rfl) rfl ?_
    refine at_pure_g rfl rfl hb1 (by exact pv_load ld_3 rfl (box_cell (.s .z) (.s (.s (.s .z))))) rfl ?_
    refine at_pure_g rfl rfl hb1 (pv_eql rfl rfl) rfl ?_
    refine at_pure (pv_pick_t rfl hb1 rfl) rfl ?_
    refine at_pure (pv_move rfl) rfl ?_
    refine at_split 21 rfl (fun hb2 => ?_) (fun hb2 => ?_)
    · skip
      refine at_pure_g rfl rfl hb2 (pv_move rfl) rfl ?_
      refine at_pure_g rfl rfl hb2 (pv_field0 fa_61_2 rfl (r := 2) rfl) rfl ?_
      refine at_pure_g rfl rfl hb2 (by exact pv_load ld_3 rfl (box_cell .z (.s (.s .z)))) rfl ?_
      refine at_pure_g rfl rfl hb2 (pv_mapgetQ Try.underlying117 Try.underlying3 ze_70 rfl rfl (MapAt.old hm (by simp))) rfl ?_
      refine at_pure_g rfl rfl hb2 (pv_field f1_70_1 rfl (.s .z)) rfl ?_
      refine at_pure_g rfl rfl hb2 (pv_neq rfl rfl) rfl ?_
      refine at_pure (pv_pick_t rfl hb2 rfl) rfl ?_
      refine at_pure (pv_assign rfl) rfl ?_
      refine at_nil ?_
      refine ex_go ?_
      refine cd_seq ?_
      refine cd_region ?_
      refine at_pure (pv_field0 fa_61_0 rfl (r := 0) rfl) rfl ?_
      refine at_pure (by exact pv_load ld_3 rfl (box_cell .z .z)) rfl ?_
      refine at_pure (pv_field0 fa_61_0 rfl (r := 0) rfl) rfl ?_
      refine at_pure (by exact pv_load ld_3 rfl (box_cell (.s .z) .z)) rfl ?_
      refine at_pure (pv_eql rfl rfl) rfl ?_
      refine at_pure (pv_move rfl) rfl ?_
      refine at_split 34 rfl (fun hb3 => ?_) (fun hb3 => ?_)
      · skip
        refine at_pure_g rfl rfl hb3 (pv_field0 fa_61_1 rfl (r := 1) rfl) rfl ?_
        refine at_pure_g rfl rfl hb3 (by exact pv_load ld_3 rfl (box_cell .z (.s .z))) rfl ?_
        refine at_pure_g rfl rfl hb3 (pv_field0 fa_61_1 rfl (r := 1) rfl) rfl ?_
        refine at_pure_g rfl rfl hb3 (by exact pv_load ld_3 rfl (box_cell (.s .z) (.s .z))) rfl ?_
        refine at_pure_g rfl rfl hb3 (pv_eql rfl rfl) rfl ?_
        refine at_pure (pv_pick_t rfl hb3 rfl) rfl ?_
        refine at_pure (pv_move rfl) rfl ?_
        refine at_split 41 rfl (fun hb4 => ?_) (fun hb4 => ?_)
        · skip
          refine at_pure_g rfl rfl hb4 (pv_move rfl) rfl ?_
          refine at_pure_g rfl rfl hb4 (pv_field0 fa_61_0 rfl (r := 0) rfl) rfl ?_
          refine at_pure_g rfl rfl hb4 (by exact pv_load ld_3 rfl (box_cell .z .z)) rfl ?_
          refine at_pure_g rfl rfl hb4 (pv_mapgetQ Try.underlying117 Try.underlying3 ze_70 rfl rfl (MapAt.old hm (by simp))) rfl ?_
          refine at_pure_g rfl rfl hb4 (pv_field f1_70_1 rfl (.s .z)) rfl ?_
          refine at_pure_g rfl rfl hb4 (pv_neq rfl rfl) rfl ?_
          refine at_pure (pv_pick_t rfl hb4 rfl) rfl ?_
          refine at_pure (pv_move rfl) rfl ?_
          refine at_split 49 rfl (fun hb5 => ?_) (fun hb5 => ?_)
          · skip
            refine at_pure_g rfl rfl hb5 (pv_move rfl) rfl ?_
            refine at_pure_g rfl rfl hb5 (pv_field0 fa_61_0 rfl (r := 0) rfl) rfl ?_
            refine at_pure_g rfl rfl hb5 (by exact pv_load ld_3 rfl (box_cell .z .z)) rfl ?_
            refine at_pure_g rfl rfl hb5 (pv_mapgetQ Try.underlying117 Try.underlying3 ze_70 rfl rfl (MapAt.old hm (by simp))) rfl ?_
            refine at_pure_g rfl rfl hb5 (pv_field f1_70_1 rfl (.s .z)) rfl ?_
            refine at_pure_g rfl rfl hb5 (pv_neq rfl rfl) rfl ?_
            refine at_pure (pv_pick_t rfl hb5 rfl) rfl ?_
            refine at_pure (pv_assign rfl) rfl ?_
            refine at_nil ?_
            refine ex_go ?_
            refine cd_seq ?_
            refine cd_region ?_
            refine at_pure (pv_move rfl) rfl ?_
            refine at_pure (pv_move rfl) rfl ?_
            refine at_split 58 rfl (fun hb6 => ?_) (fun hb6 => ?_)
            · skip
              refine at_skip rfl rfl hb6 rfl ?_
              refine at_pure (pv_pick_t rfl hb6 rfl) rfl ?_
              refine at_pure (pv_assign rfl) rfl ?_
              refine at_nil ?_
              refine ex_go ?_
              refine cd_ret ?_
              exact end_ret1 rfl rfl (fun w hs => ⟨by clear hs; refine congrArg (fun b => Ending.returned (.bool b)) ?_; rw [clash_flip]; (try simp only [hnd] at *); simp only [Bool.and_true, Bool.true_and, Bool.and_false, Bool.false_and, Bool.or_true, Bool.true_or, Bool.or_false, Bool.false_or, *], hs.keep⟩)
            · skip
              refine at_pure_g rfl rfl hb6 (pv_move rfl) rfl ?_
              refine at_pure (pv_pick_f rfl hb6 rfl) rfl ?_
              refine at_pure (pv_assign rfl) rfl ?_
              refine at_nil ?_
              refine ex_go ?_
              refine cd_ret ?_
              exact end_ret1 rfl rfl (fun w hs => ⟨by clear hs; refine congrArg (fun b => Ending.returned (.bool b)) ?_; rw [clash_flip]; (try simp only [hnd] at *); simp only [Bool.and_true, Bool.true_and, Bool.and_false, Bool.false_and, Bool.or_true, Bool.true_or, Bool.or_false, Bool.false_or, *], hs.keep⟩)
          · skip
            refine at_skip rfl rfl hb5 rfl ?_
            refine at_skip rfl rfl hb5 rfl ?_
            refine at_skip rfl rfl hb5 rfl ?_
            refine at_skip rfl rfl hb5 rfl ?_
            refine at_skip rfl rfl hb5 rfl ?_
            refine at_skip rfl rfl hb5 rfl ?_
            refine at_pure (pv_pick_f rfl hb5 rfl) rfl ?_
            refine at_pure (pv_assign rfl) rfl ?_
            refine at_nil ?_
            refine ex_go ?_
            refine cd_seq ?_
            refine cd_region ?_
            refine at_pure (pv_move rfl) rfl ?_
            refine at_pure (pv_move rfl) rfl ?_
            refine at_split 58 rfl (fun hb7 => ?_) (fun hb7 => ?_)
            · skip
              refine at_skip rfl rfl hb7 rfl ?_
              refine at_pure (pv_pick_t rfl hb7 rfl) rfl ?_
              refine at_pure (pv_assign rfl) rfl ?_
              refine at_nil ?_
              refine ex_go ?_
              refine cd_ret ?_
              exact end_ret1 rfl rfl (fun w hs => ⟨by clear hs; refine congrArg (fun b => Ending.returned (.bool b)) ?_; rw [clash_flip]; (try simp only [hnd] at *); simp only [Bool.and_true, Bool.true_and, Bool.and_false, Bool.false_and, Bool.or_true, Bool.true_or, Bool.or_false, Bool.false_or, *], hs.keep⟩)
            · skip
              refine at_pure_g rfl rfl hb7 (pv_move rfl) rfl ?_
              refine at_pure (pv_pick_f rfl hb7 rfl) rfl ?_
              refine at_pure (pv_assign rfl) rfl ?_
              refine at_nil ?_
              refine ex_go ?_
              refine cd_ret ?_
              exact end_ret1 rfl rfl (fun w hs => ⟨by clear hs; refine congrArg (fun b => Ending.returned (.bool b)) ?_; rw [clash_flip]; (try simp only [hnd] at *); simp only [Bool.and_true, Bool.true_and, Bool.and_false, Bool.false_and, Bool.or_true, Bool.true_or, Bool.or_false, Bool.false_or, *], hs.keep⟩)
        · skip
          refine at_skip rfl rfl hb4 rfl ?_
          refine at_skip rfl rfl hb4 rfl ?_
          refine at_skip rfl rfl hb4 rfl ?_
          refine at_skip rfl rfl hb4 rfl ?_
          refine at_skip rfl rfl hb4 rfl ?_
          refine at_skip rfl rfl hb4 rfl ?_
          refine at_pure (pv_pick_f rfl hb4 rfl) rfl ?_
          refine at_pure (pv_move rfl) rfl ?_
          refine at_skip rfl rfl rfl rfl ?_
          refine at_skip rfl rfl rfl rfl ?_
          refine at_skip rfl rfl rfl rfl ?_
          refine at_skip rfl rfl rfl rfl ?_
          refine at_skip rfl rfl rfl rfl ?_
          refine at_skip rfl rfl rfl rfl ?_
          refine at_pure (pv_pick_f rfl rfl rfl) rfl ?_
          refine at_pure (pv_assign rfl) rfl ?_
          refine at_nil ?_
          refine ex_go ?_
          refine cd_seq ?_
          refine cd_region ?_
          refine at_pure (pv_move rfl) rfl ?_
          refine at_pure (pv_move rfl) rfl ?_
          refine at_split 58 rfl (fun hb8 => ?_) (fun hb8 => ?_)
          · skip
            refine at_skip rfl rfl hb8 rfl ?_
            refine at_pure (pv_pick_t rfl hb8 rfl) rfl ?_
            refine at_pure (pv_assign rfl) rfl ?_
            refine at_nil ?_
            refine ex_go ?_
            refine cd_ret ?_
            exact end_ret1 rfl rfl (fun w hs => ⟨by clear hs; refine congrArg (fun b => Ending.returned (.bool b)) ?_; rw [clash_flip]; (try simp only [hnd] at *); simp only [Bool.and_true, Bool.true_and, Bool.and_false, Bool.false_and, Bool.or_true, Bool.true_or, Bool.or_false, Bool.false_or, *], hs.keep⟩)
          · skip
            refine at_pure_g rfl rfl hb8 (pv_move rfl) rfl ?_
            refine at_pure (pv_pick_f rfl hb8 rfl) rfl ?_
            refine at_pure (pv_assign rfl) rfl ?_
            refine at_nil ?_
            refine ex_go ?_
            refine cd_ret ?_
            exact end_ret1 rfl rfl (fun w hs => ⟨by clear hs; refine congrArg (fun b => Ending.returned (.bool b)) ?_; rw [clash_flip]; (try simp only [hnd] at *); simp only [Bool.and_true, Bool.true_and, Bool.and_false, Bool.false_and, Bool.or_true, Bool.true_or, Bool.or_false, Bool.false_or, *], hs.keep⟩)
      · skip
        refine at_skip rfl rfl hb3 rfl ?_
        refine at_skip rfl rfl hb3 rfl ?_
        refine at_skip rfl rfl hb3 rfl ?_
        refine at_skip rfl rfl hb3 rfl ?_
        refine at_skip rfl rfl hb3 rfl ?_
        refine at_pure (pv_pick_f rfl hb3 rfl) rfl ?_
        refine at_pure (pv_move rfl) rfl ?_
        refine at_skip rfl rfl rfl rfl ?_
        refine at_skip rfl rfl rfl rfl ?_
        refine at_skip rfl rfl rfl rfl ?_
        refine at_skip rfl rfl rfl rfl ?_
        refine at_skip rfl rfl rfl rfl ?_
        refine at_skip rfl rfl rfl rfl ?_
        refine at_pure (pv_pick_f rfl rfl rfl) rfl ?_
        refine at_pure (pv_move rfl) rfl ?_
        refine at_skip rfl rfl rfl rfl ?_
        refine at_skip rfl rfl rfl rfl ?_
        refine at_skip rfl rfl rfl rfl ?_
        refine at_skip rfl rfl rfl rfl ?_
        refine at_skip rfl rfl rfl rfl ?_
        refine at_skip rfl rfl rfl rfl ?_
        refine at_pure (pv_pick_f rfl rfl rfl) rfl ?_
        refine at_pure (pv_assign rfl) rfl ?_
        refine at_nil ?_
        refine ex_go ?_
        refine cd_seq ?_
        refine cd_region ?_
        refine at_pure (pv_move rfl) rfl ?_
        refine at_pure (pv_move rfl) rfl ?_
        refine at_split 58 rfl (fun hb9 => ?_) (fun hb9 => ?_)
        · skip
          refine at_skip rfl rfl hb9 rfl ?_
          refine at_pure (pv_pick_t rfl hb9 rfl) rfl ?_
          refine at_pure (pv_assign rfl) rfl ?_
          refine at_nil ?_
          refine ex_go ?_
          refine cd_ret ?_
          exact end_ret1 rfl rfl (fun w hs => ⟨by clear hs; refine congrArg (fun b => Ending.returned (.bool b)) ?_; rw [clash_flip]; (try simp only [hnd] at *); simp only [Bool.and_true, Bool.true_and, Bool.and_false, Bool.false_and, Bool.or_true, Bool.true_or, Bool.or_false, Bool.false_or, *], hs.keep⟩)
        · skip
          refine at_pure_g rfl rfl hb9 (pv_move rfl) rfl ?_
          refine at_pure (pv_pick_f rfl hb9 rfl) rfl ?_
          refine at_pure (pv_assign rfl) rfl ?_
          refine at_nil ?_
          refine ex_go ?_
          refine cd_ret ?_
          exact end_ret1 rfl rfl (fun w hs => ⟨by clear hs; refine congrArg (fun b => Ending.returned (.bool b)) ?_; rw [clash_flip]; (try simp only [hnd] at *); simp only [Bool.and_true, Bool.true_and, Bool.and_false, Bool.false_and, Bool.or_true, Bool.true_or, Bool.or_false, Bool.false_or, *], hs.keep⟩)
    · skip
      refine at_skip rfl rfl hb2 rfl ?_
      refine at_skip rfl rfl hb2 rfl ?_
      refine at_skip rfl rfl hb2 rfl ?_
      refine at_skip rfl rfl hb2 rfl ?_
      refine at_skip rfl rfl hb2 rfl ?_
      refine at_skip rfl rfl hb2 rfl ?_
      refine at_pure (pv_pick_f rfl hb2 rfl) rfl ?_
      refine at_pure (pv_assign rfl) rfl ?_
      refine at_nil ?_
      refine ex_go ?_
      refine cd_seq ?_
      refine cd_region ?_
      refine at_pure (pv_field0 fa_61_0 rfl (r := 0) rfl) rfl ?_
      refine at_pure (by exact pv_load ld_3 rfl (box_cell .z .z)) rfl ?_
      refine at_pure (pv_field0 fa_61_0 rfl (r := 0) rfl) rfl ?_
      refine at_pure (by exact pv_load ld_3 rfl (box_cell (.s .z) .z)) rfl ?_
      refine at_pure (pv_eql rfl rfl) rfl ?_
      refine at_pure (pv_move rfl) rfl ?_
      refine at_split 34 rfl (fun hb10 => ?_) (fun hb10 => ?_)
      · skip
        refine at_pure_g rfl rfl hb10 (pv_field0 fa_61_1 rfl (r := 1) rfl) rfl ?_
        refine at_pure_g rfl rfl hb10 (by exact pv_load ld_3 rfl (box_cell .z (.s .z))) rfl ?_
        refine at_pure_g rfl rfl hb10 (pv_field0 fa_61_1 rfl (r := 1) rfl) rfl ?_
        refine at_pure_g rfl rfl hb10 (by exact pv_load ld_3 rfl (box_cell (.s .z) (.s .z))) rfl ?_
        refine at_pure_g rfl rfl hb10 (pv_eql rfl rfl) rfl ?_
        refine at_pure (pv_pick_t rfl hb10 rfl) rfl ?_
        refine at_pure (pv_move rfl) rfl ?_
        refine at_split 41 rfl (fun hb11 => ?_) (fun hb11 => ?_)
        · skip
          refine at_pure_g rfl rfl hb11 (pv_move rfl) rfl ?_
          refine at_pure_g rfl rfl hb11 (pv_field0 fa_61_0 rfl (r := 0) rfl) rfl ?_
          refine at_pure_g rfl rfl hb11 (by exact pv_load ld_3 rfl (box_cell .z .z)) rfl ?_
          refine at_pure_g rfl rfl hb11 (pv_mapgetQ Try.underlying117 Try.underlying3 ze_70 rfl rfl (MapAt.old hm (by simp))) rfl ?_
          refine at_pure_g rfl rfl hb11 (pv_field f1_70_1 rfl (.s .z)) rfl ?_
          refine at_pure_g rfl rfl hb11 (pv_neq rfl rfl) rfl ?_
          refine at_pure (pv_pick_t rfl hb11 rfl) rfl ?_
          refine at_pure (pv_move rfl) rfl ?_
          refine at_split 49 rfl (fun hb12 => ?_) (fun hb12 => ?_)
          · skip
            refine at_pure_g rfl rfl hb12 (pv_move rfl) rfl ?_
            refine at_pure_g rfl rfl hb12 (pv_field0 fa_61_0 rfl (r := 0) rfl) rfl ?_
            refine at_pure_g rfl rfl hb12 (by exact pv_load ld_3 rfl (box_cell .z .z)) rfl ?_
            refine at_pure_g rfl rfl hb12 (pv_mapgetQ Try.underlying117 Try.underlying3 ze_70 rfl rfl (MapAt.old hm (by simp))) rfl ?_
            refine at_pure_g rfl rfl hb12 (pv_field f1_70_1 rfl (.s .z)) rfl ?_
            refine at_pure_g rfl rfl hb12 (pv_neq rfl rfl) rfl ?_
            refine at_pure (pv_pick_t rfl hb12 rfl) rfl ?_
            refine at_pure (pv_assign rfl) rfl ?_
            refine at_nil ?_
            refine ex_go ?_
            refine cd_seq ?_
            refine cd_region ?_
            refine at_pure (pv_move rfl) rfl ?_
            refine at_pure (pv_move rfl) rfl ?_
            refine at_pure_g rfl rfl rfl (pv_move rfl) rfl ?_
            refine at_pure (pv_pick_f rfl rfl rfl) rfl ?_
            refine at_pure (pv_assign rfl) rfl ?_
            refine at_nil ?_
            refine ex_go ?_
            refine cd_ret ?_
            exact end_ret1 rfl rfl (fun w hs => ⟨by clear hs; refine congrArg (fun b => Ending.returned (.bool b)) ?_; rw [clash_flip]; (try simp only [hnd] at *); simp only [Bool.and_true, Bool.true_and, Bool.and_false, Bool.false_and, Bool.or_true, Bool.true_or, Bool.or_false, Bool.false_or, *], hs.keep⟩)
          · skip
            refine at_skip rfl rfl hb12 rfl ?_
            refine at_skip rfl rfl hb12 rfl ?_
            refine at_skip rfl rfl hb12 rfl ?_
            refine at_skip rfl rfl hb12 rfl ?_
            refine at_skip rfl rfl hb12 rfl ?_
            refine at_skip rfl rfl hb12 rfl ?_
            refine at_pure (pv_pick_f rfl hb12 rfl) rfl ?_
            refine at_pure (pv_assign rfl) rfl ?_
            refine at_nil ?_
            refine ex_go ?_
            refine cd_seq ?_
            refine cd_region ?_
            refine at_pure (pv_move rfl) rfl ?_
            refine at_pure (pv_move rfl) rfl ?_
            refine at_pure_g rfl rfl rfl (pv_move rfl) rfl ?_
            refine at_pure (pv_pick_f rfl rfl rfl) rfl ?_
            refine at_pure (pv_assign rfl) rfl ?_
            refine at_nil ?_
            refine ex_go ?_
            refine cd_ret ?_
            exact end_ret1 rfl rfl (fun w hs => ⟨by clear hs; refine congrArg (fun b => Ending.returned (.bool b)) ?_; rw [clash_flip]; (try simp only [hnd] at *); simp only [Bool.and_true, Bool.true_and, Bool.and_false, Bool.false_and, Bool.or_true, Bool.true_or, Bool.or_false, Bool.false_or, *], hs.keep⟩)
        · skip
          refine at_skip rfl rfl hb11 rfl ?_
          refine at_skip rfl rfl hb11 rfl ?_
          refine at_skip rfl rfl hb11 rfl ?_
          refine at_skip rfl rfl hb11 rfl ?_
          refine at_skip rfl rfl hb11 rfl ?_
          refine at_skip rfl rfl hb11 rfl ?_
          refine at_pure (pv_pick_f rfl hb11 rfl) rfl ?_
          refine at_pure (pv_move rfl) rfl ?_
          refine at_skip rfl rfl rfl rfl ?_
          refine at_skip rfl rfl rfl rfl ?_
          refine at_skip rfl rfl rfl rfl ?_
          refine at_skip rfl rfl rfl rfl ?_
          refine at_skip rfl rfl rfl rfl ?_
          refine at_skip rfl rfl rfl rfl ?_
          refine at_pure (pv_pick_f rfl rfl rfl) rfl ?_
          refine at_pure (pv_assign rfl) rfl ?_
          refine at_nil ?_
          refine ex_go ?_
          refine cd_seq ?_
          refine cd_region ?_
          refine at_pure (pv_move rfl) rfl ?_
          refine at_pure (pv_move rfl) rfl ?_
          refine at_pure_g rfl rfl rfl (pv_move rfl) rfl ?_
          refine at_pure (pv_pick_f rfl rfl rfl) rfl ?_
          refine at_pure (pv_assign rfl) rfl ?_
          refine at_nil ?_
          refine ex_go ?_
          refine cd_ret ?_
          exact end_ret1 rfl rfl (fun w hs => ⟨by clear hs; refine congrArg (fun b => Ending.returned (.bool b)) ?_; rw [clash_flip]; (try simp only [hnd] at *); simp only [Bool.and_true, Bool.true_and, Bool.and_false, Bool.false_and, Bool.or_true, Bool.true_or, Bool.or_false, Bool.false_or, *], hs.keep⟩)
      · skip
        refine at_skip rfl rfl hb10 rfl ?_
        refine at_skip rfl rfl hb10 rfl ?_
        refine at_skip rfl rfl hb10 rfl ?_
        refine at_skip rfl rfl hb10 rfl ?_
        refine at_skip rfl rfl hb10 rfl ?_
        refine at_pure (pv_pick_f rfl hb10 rfl) rfl ?_
        refine at_pure (pv_move rfl) rfl ?_
        refine at_skip rfl rfl rfl rfl ?_
        refine at_skip rfl rfl rfl rfl ?_
        refine at_skip rfl rfl rfl rfl ?_
        refine at_skip rfl rfl rfl rfl ?_
        refine at_skip rfl rfl rfl rfl ?_
        refine at_skip rfl rfl rfl rfl ?_
        refine at_pure (pv_pick_f rfl rfl rfl) rfl ?_
        refine at_pure (pv_move rfl) rfl ?_
        refine at_skip rfl rfl rfl rfl ?_
        refine at_skip rfl rfl rfl rfl ?_
        refine at_skip rfl rfl rfl rfl ?_
        refine at_skip rfl rfl rfl rfl ?_
        refine at_skip rfl rfl rfl rfl ?_
        refine at_skip rfl rfl rfl rfl ?_
        refine at_pure (pv_pick_f rfl rfl rfl) rfl ?_
        refine at_pure (pv_assign rfl) rfl ?_
        refine at_nil ?_
        refine ex_go ?_
        refine cd_seq ?_
        refine cd_region ?_
        refine at_pure (pv_move rfl) rfl ?_
        refine at_pure (pv_move rfl) rfl ?_
        refine at_pure_g rfl rfl rfl (pv_move rfl) rfl ?_
        refine at_pure (pv_pick_f rfl rfl rfl) rfl ?_
        refine at_pure (pv_assign rfl) rfl ?_
        refine at_nil ?_
        refine ex_go ?_
        refine cd_ret ?_
        exact end_ret1 rfl rfl (fun w hs => ⟨by clear hs; refine congrArg (fun b => Ending.returned (.bool b)) ?_; rw [clash_flip]; (try simp only [hnd] at *); simp only [Bool.and_true, Bool.true_and, Bool.and_false, Bool.false_and, Bool.or_true, Bool.true_or, Bool.or_false, Bool.false_or, *], hs.keep⟩)
  · skip
    refine at_skip rfl rfl hb1 rfl ?_
    refine at_skip rfl rfl hb1 rfl ?_
    refine at_skip rfl rfl hb1 rfl ?_
    refine at_skip rfl rfl hb1 rfl ?_
    refine at_skip rfl rfl hb1 rfl ?_
    refine at_pure (pv_pick_f rfl hb1 rfl) rfl ?_
    refine at_pure (pv_move rfl) rfl ?_
    refine at_skip rfl rfl rfl rfl ?_
    refine at_skip rfl rfl rfl rfl ?_
    refine at_skip rfl rfl rfl rfl ?_
    refine at_skip rfl rfl rfl rfl ?_
    refine at_skip rfl rfl rfl rfl ?_
    refine at_skip rfl rfl rfl rfl ?_
    refine at_pure (pv_pick_f rfl rfl rfl) rfl ?_
    refine at_pure (pv_assign rfl) rfl ?_
    refine at_nil ?_
    refine ex_go ?_
    refine cd_seq ?_
    refine cd_region ?_
    refine at_pure (pv_field0 fa_61_0 rfl (r := 0) rfl) rfl ?_
    refine at_pure (by exact pv_load ld_3 rfl (box_cell .z .z)) rfl ?_
    refine at_pure (pv_field0 fa_61_0 rfl (r := 0) rfl) rfl ?_
    refine at_pure (by exact pv_load ld_3 rfl (box_cell (.s .z) .z)) rfl ?_
    refine at_pure (pv_eql rfl rfl) rfl ?_
    refine at_pure (pv_move rfl) rfl ?_
    refine at_split 34 rfl (fun hb13 => ?_) (fun hb13 => ?_)
    · skip
      refine at_pure_g rfl rfl hb13 (pv_field0 fa_61_1 rfl (r := 1) rfl) rfl ?_
      refine at_pure_g rfl rfl hb13 (by exact pv_load ld_3 rfl (box_cell .z (.s .z))) rfl ?_
      refine at_pure_g rfl rfl hb13 (pv_field0 fa_61_1 rfl (r := 1) rfl) rfl ?_
      refine at_pure_g rfl rfl hb13 (by exact pv_load ld_3 rfl (box_cell (.s .z) (.s .z))) rfl ?_
      refine at_pure_g rfl rfl hb13 (pv_eql rfl rfl) rfl ?_
      refine at_pure (pv_pick_t rfl hb13 rfl) rfl ?_
      refine at_pure (pv_move rfl) rfl ?_
      refine at_split 41 rfl (fun hb14 => ?_) (fun hb14 => ?_)
      · skip
        refine at_pure_g rfl rfl hb14 (pv_move rfl) rfl ?_
        refine at_pure_g rfl rfl hb14 (pv_field0 fa_61_0 rfl (r := 0) rfl) rfl ?_
        refine at_pure_g rfl rfl hb14 (by exact pv_load ld_3 rfl (box_cell .z .z)) rfl ?_
        refine at_pure_g rfl rfl hb14 (pv_mapgetQ Try.underlying117 Try.underlying3 ze_70 rfl rfl (MapAt.old hm (by simp))) rfl ?_
        refine at_pure_g rfl rfl hb14 (pv_field f1_70_1 rfl (.s .z)) rfl ?_
        refine at_pure_g rfl rfl hb14 (pv_neq rfl rfl) rfl ?_
        refine at_pure (pv_pick_t rfl hb14 rfl) rfl ?_
        refine at_pure (pv_move rfl) rfl ?_
        refine at_split 49 rfl (fun hb15 => ?_) (fun hb15 => ?_)
        · skip
          refine at_pure_g rfl rfl hb15 (pv_move rfl) rfl ?_
          refine at_pure_g rfl rfl hb15 (pv_field0 fa_61_0 rfl (r := 0) rfl) rfl ?_
          refine at_pure_g rfl rfl hb15 (by exact pv_load ld_3 rfl (box_cell .z .z)) rfl ?_
          refine at_pure_g rfl rfl hb15 (pv_mapgetQ Try.underlying117 Try.underlying3 ze_70 rfl rfl (MapAt.old hm (by simp))) rfl ?_
          refine at_pure_g rfl rfl hb15 (pv_field f1_70_1 rfl (.s .z)) rfl ?_
          refine at_pure_g rfl rfl hb15 (pv_neq rfl rfl) rfl ?_
          refine at_pure (pv_pick_t rfl hb15 rfl) rfl ?_
          refine at_pure (pv_assign rfl) rfl ?_
          refine at_nil ?_
          refine ex_go ?_
          refine cd_seq ?_
          refine cd_region ?_
          refine at_pure (pv_move rfl) rfl ?_
          refine at_pure (pv_move rfl) rfl ?_
          refine at_pure_g rfl rfl rfl (pv_move rfl) rfl ?_
          refine at_pure (pv_pick_f rfl rfl rfl) rfl ?_
          refine at_pure (pv_assign rfl) rfl ?_
          refine at_nil ?_
          refine ex_go ?_
          refine cd_ret ?_
          exact end_ret1 rfl rfl (fun w hs => ⟨by clear hs; refine congrArg (fun b => Ending.returned (.bool b)) ?_; rw [clash_flip]; (try simp only [hnd] at *); simp only [Bool.and_true, Bool.true_and, Bool.and_false, Bool.false_and, Bool.or_true, Bool.true_or, Bool.or_false, Bool.false_or, *], hs.keep⟩)
        · skip
          refine at_skip rfl rfl hb15 rfl ?_
          refine at_skip rfl rfl hb15 rfl ?_
          refine at_skip rfl rfl hb15 rfl ?_
          refine at_skip rfl rfl hb15 rfl ?_
          refine at_skip rfl rfl hb15 rfl ?_
          refine at_skip rfl rfl hb15 rfl ?_
          refine at_pure (pv_pick_f rfl hb15 rfl) rfl ?_
          refine at_pure (pv_assign rfl) rfl ?_
          refine at_nil ?_
          refine ex_go ?_
          refine cd_seq ?_
          refine cd_region ?_
          refine at_pure (pv_move rfl) rfl ?_
          refine at_pure (pv_move rfl) rfl ?_
          refine at_pure_g rfl rfl rfl (pv_move rfl) rfl ?_
          refine at_pure (pv_pick_f rfl rfl rfl) rfl ?_
          refine at_pure (pv_assign rfl) rfl ?_
          refine at_nil ?_
          refine ex_go ?_
          refine cd_ret ?_
          exact end_ret1 rfl rfl (fun w hs => ⟨by clear hs; refine congrArg (fun b => Ending.returned (.bool b)) ?_; rw [clash_flip]; (try simp only [hnd] at *); simp only [Bool.and_true, Bool.true_and, Bool.and_false, Bool.false_and, Bool.or_true, Bool.true_or, Bool.or_false, Bool.false_or, *], hs.keep⟩)
      · skip
        refine at_skip rfl rfl hb14 rfl ?_
        refine at_skip rfl rfl hb14 rfl ?_
        refine at_skip rfl rfl hb14 rfl ?_
        refine at_skip rfl rfl hb14 rfl ?_
        refine at_skip rfl rfl hb14 rfl ?_
        refine at_skip rfl rfl hb14 rfl ?_
        refine at_pure (pv_pick_f rfl hb14 rfl) rfl ?_
        refine at_pure (pv_move rfl) rfl ?_
        refine at_skip rfl rfl rfl rfl ?_
        refine at_skip rfl rfl rfl rfl ?_
        refine at_skip rfl rfl rfl rfl ?_
        refine at_skip rfl rfl rfl rfl ?_
        refine at_skip rfl rfl rfl rfl ?_
        refine at_skip rfl rfl rfl rfl ?_
        refine at_pure (pv_pick_f rfl rfl rfl) rfl ?_
        refine at_pure (pv_assign rfl) rfl ?_
        refine at_nil ?_
        refine ex_go ?_
        refine cd_seq ?_
        refine cd_region ?_
        refine at_pure (pv_move rfl) rfl ?_
        refine at_pure (pv_move rfl) rfl ?_
        refine at_pure_g rfl rfl rfl (pv_move rfl) rfl ?_
        refine at_pure (pv_pick_f rfl rfl rfl) rfl ?_
        refine at_pure (pv_assign rfl) rfl ?_
        refine at_nil ?_
        refine ex_go ?_
        refine cd_ret ?_
        exact end_ret1 rfl rfl (fun w hs => ⟨by clear hs; refine congrArg (fun b => Ending.returned (.bool b)) ?_; rw [clash_flip]; (try simp only [hnd] at *); simp only [Bool.and_true, Bool.true_and, Bool.and_false, Bool.false_and, Bool.or_true, Bool.true_or, Bool.or_false, Bool.false_or, *], hs.keep⟩)
    · skip
      refine at_skip rfl rfl hb13 rfl ?_
      refine at_skip rfl rfl hb13 rfl ?_
      refine at_skip rfl rfl hb13 rfl ?_
      refine at_skip rfl rfl hb13 rfl ?_
      refine at_skip rfl rfl hb13 rfl ?_
      refine at_pure (pv_pick_f rfl hb13 rfl) rfl ?_
      refine at_pure (pv_move rfl) rfl ?_
      refine at_skip rfl rfl rfl rfl ?_
      refine at_skip rfl rfl rfl rfl ?_
      refine at_skip rfl rfl rfl rfl ?_
      refine at_skip rfl rfl rfl rfl ?_
      refine at_skip rfl rfl rfl rfl ?_
      refine at_skip rfl rfl rfl rfl ?_
      refine at_pure (pv_pick_f rfl rfl rfl) rfl ?_
      refine at_pure (pv_move rfl) rfl ?_
      refine at_skip rfl rfl rfl rfl ?_
      refine at_skip rfl rfl rfl rfl ?_
      refine at_skip rfl rfl rfl rfl ?_
      refine at_skip rfl rfl rfl rfl ?_
      refine at_skip rfl rfl rfl rfl ?_
      refine at_skip rfl rfl rfl rfl ?_
      refine at_pure (pv_pick_f rfl rfl rfl) rfl ?_
      refine at_pure (pv_assign rfl) rfl ?_
      refine at_nil ?_
      refine ex_go ?_
      refine cd_seq ?_
      refine cd_region ?_
      refine at_pure (pv_move rfl) rfl ?_
      refine at_pure (pv_move rfl) rfl ?_
      refine at_pure_g rfl rfl rfl (pv_move rfl) rfl ?_
      refine at_pure (pv_pick_f rfl rfl rfl) rfl ?_
      refine at_pure (pv_assign rfl) rfl ?_
      refine at_nil ?_
      refine ex_go ?_
      refine cd_ret ?_
      exact end_ret1 rfl rfl (fun w hs => ⟨by clear hs; refine congrArg (fun b => Ending.returned (.bool b)) ?_; rw [clash_flip]; (try simp only [hnd] at *); simp only [Bool.and_true, Bool.true_and, Bool.and_false, Bool.false_and, Bool.or_true, Bool.true_or, Bool.or_false, Bool.false_or, *], hs.keep⟩)

theorem nodeMap_step {ns : List Q4} {k : Nat} {z : Q4} (hz : ns[k]? = some z) : nodeMap (ns.take (k + 1)) = mset (nodeMap (ns.take k)) z.1 z := by
  unfold nodeMap
  rw [List.take_add_one, hz, List.foldl_append]
  rfl

theorem find_go (a b : Option Addr) (ca cb : Nat) (ns ls : List Q4) (w : World) (hn : Sl [] enc4 4 w a ca ns) (hl : Sl [] enc4 4 w b cb ls) : Calls Try.prog 77 [.agg #[.slice a ns.length ca, .slice b ls.length cb]].toArray w (Gives (fun g : Nat => .map (some g)) (fun g => [MapP fQ g (nodeMap ns)]) w) := by
  refine calls_body (n := 20) Try.func77 rfl rfl rfl (St.init _ []) ?_
  refine cd_seq ?_
  refine cd_region ?_
  refine at_does (does_box rfl .agg (fun _ => .nil)) rfl (fun g1 => ?_)
  refine at_pure (pv_assign rfl) rfl ?_
  refine at_nil ?_
  refine ex_go ?_
  refine cd_seq ?_
  refine cd_region ?_
  refine at_does (does_makeMap fQ (fun _ => (.cons .nil))) rfl (fun g2 => ?_)
  refine at_pure (pv_assign rfl) rfl ?_
  refine at_nil ?_
  refine ex_go ?_
  refine cd_seq ?_
  refine cd_seq ?_
  refine cd_region ?_
  refine at_pure (pv_field0 fa_28_0 rfl (r := 0) rfl) rfl ?_
  refine at_pure (by exact pv_load ld_25 rfl (box_cell .z .z)) rfl ?_
  refine at_pure (pv_len Try.underlying25 rfl) rfl ?_
  refine at_pure (pv_move rfl) rfl ?_
  refine at_nil ?_
  refine ex_go ?_
  refine cd_block ?_
  refine cd_loop (σ := Nat) (fun s => [(3, .map (some g2)), (8, .slice a ns.length ca), (9, .int .i64 ns.length), (10, .int .i64 (s : Int))]) (fun s => [Box g1 [.slice a ns.length ca, .slice b ls.length cb] 28, MapP fQ g2 (nodeMap (ns.take s))]) (fun s => s ≤ ns.length) (fun s => ns.length - s) 0 (Nat.zero_le _) ⟨rfl, rfl, rfl, rfl, trivial⟩ (by repeat first | exact sLn _ | apply sLc | apply sLd) ?_
  rintro k hk
  refine cd_seq ?_
  refine cd_region ?_
  refine at_pure (pv_lss rfl rfl) rfl ?_
  refine at_nil ?_
  refine ex_go ?_
  refine cd_seq ?_
  refine cd_if rfl (fun hlt => ?_) (fun hlt => ?_)
  · skip
    refine cd_skip ?_
    refine ex_go ?_
    refine cd_seq ?_
    refine cd_block ?_
    refine cd_seq ?_
    have hkl : k < ns.length := by simpa using hlt
    obtain ⟨z, hz⟩ := get_of hkl
    have hsm := hn.sm
    refine cd_region ?_
    refine at_pure (pv_ix Try.underlying25 cz_70 rfl rfl (by first | omega | (simp only [decide_eq_true_eq, decide_eq_false_iff_not] at *; omega)) hn.real (k := k) (by omega)) rfl ?_
    refine at_pure (pv_elems ag_70 rfl (hn.gets hz) rfl) rfl ?_
    refine at_does (does_alloc ze_70 .agg (fun _ => (.cons (.cons .nil)))) rfl (fun g3 => ?_)
    refine at_turns (by exact turns_store sz_70 rfl rfl .agg rfl rfl (.s (.s .z)) (.rep (.rep (.rep (.rep .done)))) (.s (.s .z))) ?_
    refine at_nil ?_
    refine ex_go ?_
    refine cd_region ?_
    refine at_pure (pv_move rfl) rfl ?_
    refine at_pure (pv_field0 fa_70_0 rfl (r := 0) rfl) rfl ?_
    refine at_pure (by exact pv_load ld_3 rfl (box_cell (.s (.s .z)) .z)) rfl ?_
    refine at_pure (by exact pv_loads_box ag_70 rfl (.s (.s .z)) (.take (.take (.take (.take .done))))) rfl ?_
    refine at_turns (by exact turns_mapput (z) Try.underlying117 Try.underlying3 rfl rfl rfl rfl (.s .z) (.s .z)) ?_
    refine at_nil ?_
    refine ex_in_normal (ex_go ?_)
    refine cd_region ?_
    refine at_pure (by first | exact pv_add_n rfl rfl (by unfold In64; omega) | exact pv_add rfl rfl) rfl ?_
    refine at_pure (pv_move rfl) rfl ?_
    refine at_nil ?_
    exact ex_meet (k + 1) ⟨by omega, by omega⟩ ⟨rfl, rfl, rfl, rfl, trivial⟩ (by rw [nodeMap_step hz]; repeat first | exact sLn _ | apply sLc | apply sLd)
  · skip
    refine cd_exit ?_
    refine ex_then_exit (ex_then_exit (ex_in (ex_go ?_)))
    refine cd_seq ?_
    refine cd_region ?_
    refine at_pure (pv_move rfl) rfl ?_
    refine at_pure (pv_assign rfl) rfl ?_
    refine at_nil ?_
    refine ex_go ?_
    refine cd_ret ?_
    exact end_ret1 rfl rfl (fun w hs => by have hkk : k = ns.length := (by simp at hlt; omega); subst hkk; rw [List.take_length] at hs; exact Gives.mk' g2 rfl (by repeat first | exact sLn _ | apply sLc | apply sLd) hs)

end Go.Proofs.Ytkejdfnpbkdllaa
