/- The walks of the graph's reference. -/
import Derived.Test.YtkejdfnpbkdllaaF25
set_option linter.unusedVariables false
set_option linter.unusedSimpArgs false
set_option maxRecDepth 20000
namespace Go.Proofs.Ytkejdfnpbkdllaa
open Go Go.RowKit Go.Proofs.YtkejdfnpbkdllaaV
abbrev Q4 := Int × Int × Int × Int
def enc4 (z : Q4) : List Value := [.int .i64 z.1, .int .i64 z.2.1, .int .i64 z.2.2.1, .int .i64 z.2.2.2]
def enc1 (z : Int) : List Value := [.int .i64 z]
theorem len4 (z : Q4) : (enc4 z).length = 4 := rfl
theorem len1 (z : Int) : (enc1 z).length = 1 := rfl
theorem one4 (z : Q4) : ∀ u ∈ enc4 z, u.oneCell' = true := by intro u hu; simp [enc4] at hu; rcases hu with rfl | rfl | rfl | rfl <;> rfl
theorem one1 (z : Int) : ∀ u ∈ enc1 z, u.oneCell' = true := by intro u hu; simp [enc1] at hu; subst hu; rfl
theorem drop_of {α : Type} {xs : List α} {k : Nat} {z : α} (h : xs[k]? = some z) : xs.drop k = z :: xs.drop (k + 1) := by
  obtain ⟨h1, h2⟩ := List.getElem?_eq_some_iff.1 h
  rw [List.drop_eq_getElem_cons h1, h2]
theorem get_of {α : Type} {xs : List α} {k : Nat} (h : k < xs.length) : ∃ z, xs[k]? = some z := ⟨_, List.getElem?_eq_getElem h⟩
def fits (z : Q4) : Bool := decide (1 ≤ z.1) && decide (z.1 ≤ 2147483647) && (bif z.2.1 == 1 then z.2.2.1 == 0 && z.2.2.2 == 1 else bif z.2.1 == 2 then z.2.2.1 == 1 && z.2.2.2 == 0 else bif z.2.1 == 3 then decide (1 ≤ z.2.2.1) && decide (z.2.2.1 ≤ 8) && z.2.2.2 == 1 else bif z.2.1 == 4 then z.2.2.1 == 1 && z.2.2.2 == 1 else bif z.2.1 == 5 then z.2.2.1 == 1 && decide (1 ≤ z.2.2.2) && decide (z.2.2.2 ≤ 8) else false)
def less (x y : Q4) : Bool := bif x.1 != y.1 then decide (x.1 < y.1) else bif x.2.1 != y.2.1 then decide (x.2.1 < y.2.1) else bif x.2.2.1 != y.2.2.1 then decide (x.2.2.1 < y.2.2.1) else decide (x.2.2.2 < y.2.2.2)
/-- The first element whose number is i. -/
def look (ns : List Q4) (i : Int) : Option Q4 := ns.find? fun z => z.1 == i
def nodeD (ns : List Q4) (i : Int) : Q4 := (look ns i).getD (0, 0, 0, 0)
def hasN (ns : List Q4) (i : Int) : Bool := (look ns i).isSome
def ports (ns : List Q4) (l : Q4) : Bool := hasN ns l.1 && hasN ns l.2.2.1 && decide (0 ≤ l.2.1) && decide (l.2.1 < (nodeD ns l.1).2.2.2) && decide (0 ≤ l.2.2.2) && decide (l.2.2.2 < (nodeD ns l.2.2.1).2.2.1)
def clash (ns : List Q4) (x l : Q4) : Bool := (x.2.2.1 == l.2.2.1 && x.2.2.2 == l.2.2.2 && (nodeD ns l.2.2.1).2.1 != 3) || (x.1 == l.1 && x.2.1 == l.2.1 && (nodeD ns l.1).2.1 != 5 && (nodeD ns l.1).2.1 != 1)
def crowded (ns : List Q4) (l : Q4) (xs : List Q4) : Bool := xs.any fun x => clash ns x l
theorem eqCells4 (x y : Q4) : eqCells (enc4 x) (enc4 y) = (x == y) := by
  obtain ⟨x1, x2, x3, x4⟩ := x
  obtain ⟨y1, y2, y3, y4⟩ := y
  simp [eqCells, enc4]
  rw [Bool.eq_iff_iff]
  simp [Prod.ext_iff]

theorem fits_ref (z : Q4) (w : World) : Calls Try.prog 66 [.agg #[.int .i64 z.1, .int .i64 z.2.1, .int .i64 z.2.2.1, .int .i64 z.2.2.2]].toArray w (Val (.bool (fits z)) w) := by
  refine calls_body (n := 73) Try.func66 rfl rfl rfl (St.init _ []) ?_
  refine cd_seq ?_
  refine cd_region ?_
  refine at_does (does_box rfl .agg (fun _ => .nil)) rfl (fun g1 => ?_)
  refine at_pure (pv_assign rfl) rfl ?_
  refine at_nil ?_
  refine ex_go ?_
  refine cd_seq ?_
  refine cd_seq ?_
  refine cd_region ?_
  refine at_pure (pv_field0 fa_70_0 rfl (r := 0) rfl) rfl ?_
  refine at_pure (by exact pv_load ld_3 rfl (box_cell .z .z)) rfl ?_
  refine at_pure (pv_lss rfl rfl) rfl ?_
  refine at_pure (pv_move rfl) rfl ?_
  refine at_split 6 rfl (fun hb1 => ?_) (fun hb1 => ?_)
  · skip
    refine at_skip rfl rfl hb1 rfl ?_
    refine at_skip rfl rfl hb1 rfl ?_
    refine at_skip rfl rfl hb1 rfl ?_
    refine at_pure (pv_pick_t rfl hb1 rfl) rfl ?_
    refine at_nil ?_
    refine ex_go ?_
    refine cd_then rfl rfl ?_
    refine cd_seq ?_
    refine cd_region ?_
    refine at_pure (pv_assign rfl) rfl ?_
    refine at_nil ?_
    refine ex_go ?_
    refine cd_ret ?_
    refine ex_then_ret ?_
    exact end_ret1 rfl rfl (fun w hs => ⟨by clear hs; refine congrArg (fun b => Ending.returned (.bool b)) ?_; obtain ⟨i, k, p, q⟩ := z; simp only [fits]; first | (simp_all; done) | (simp_all; omega), hs.keep⟩)
  · skip
    refine at_pure_g rfl rfl hb1 (pv_field0 fa_70_0 rfl (r := 0) rfl) rfl ?_
    refine at_pure_g rfl rfl hb1 (by exact pv_load ld_3 rfl (box_cell .z .z)) rfl ?_
    refine at_pure_g rfl rfl hb1 (pv_gtr rfl rfl) rfl ?_
    refine at_pure (pv_pick_f rfl hb1 rfl) rfl ?_
    refine at_nil ?_
    refine ex_go ?_
    refine cd_if rfl (fun hb2 => ?_) (fun hb2 => ?_)
    · skip
      refine cd_seq ?_
      refine cd_region ?_
      refine at_pure (pv_assign rfl) rfl ?_
      refine at_nil ?_
      refine ex_go ?_
      refine cd_ret ?_
      refine ex_then_ret ?_
      exact end_ret1 rfl rfl (fun w hs => ⟨by clear hs; refine congrArg (fun b => Ending.returned (.bool b)) ?_; obtain ⟨i, k, p, q⟩ := z; simp only [fits]; first | (simp_all; done) | (simp_all; omega), hs.keep⟩)
    · skip
      refine cd_skip ?_
      refine ex_go ?_
      refine cd_seq ?_
      refine cd_seq ?_
      refine cd_region ?_
      refine at_pure (pv_field0 fa_70_1 rfl (r := 1) rfl) rfl ?_
      refine at_pure (by exact pv_load ld_3 rfl (box_cell .z (.s .z))) rfl ?_
      refine at_nil ?_
      refine ex_go ?_
      refine cd_block ?_
      refine cd_seq ?_
      refine cd_region ?_
      refine at_pure (pv_eql rfl rfl) rfl ?_
      refine at_pure (pv_assign rfl) rfl ?_
      refine at_nil ?_
      refine ex_go ?_
      refine cd_if rfl (fun hb3 => ?_) (fun hb3 => ?_)
      · skip
        refine cd_seq ?_
        refine cd_region ?_
        refine at_pure (pv_field0 fa_70_2 rfl (r := 2) rfl) rfl ?_
        refine at_pure (by exact pv_load ld_3 rfl (box_cell .z (.s (.s .z)))) rfl ?_
        refine at_pure (pv_eql rfl rfl) rfl ?_
        refine at_pure (pv_move rfl) rfl ?_
        refine at_split 18 rfl (fun hb4 => ?_) (fun hb4 => ?_)
        · skip
          refine at_pure_g rfl rfl hb4 (pv_field0 fa_70_3 rfl (r := 3) rfl) rfl ?_
          refine at_pure_g rfl rfl hb4 (by exact pv_load ld_3 rfl (box_cell .z (.s (.s (.s .z))))) rfl ?_
          refine at_pure_g rfl rfl hb4 (pv_eql rfl rfl) rfl ?_
          refine at_pure (pv_pick_t rfl hb4 rfl) rfl ?_
          refine at_pure (pv_assign rfl) rfl ?_
          refine at_nil ?_
          refine ex_go ?_
          refine cd_ret ?_
          refine ex_in_ret (ex_then_ret ?_)
          exact end_ret1 rfl rfl (fun w hs => ⟨by clear hs; refine congrArg (fun b => Ending.returned (.bool b)) ?_; obtain ⟨i, k, p, q⟩ := z; simp only [fits]; first | (simp_all; done) | (simp_all; omega), hs.keep⟩)
        · skip
          refine at_skip rfl rfl hb4 rfl ?_
          refine at_skip rfl rfl hb4 rfl ?_
          refine at_skip rfl rfl hb4 rfl ?_
          refine at_pure (pv_pick_f rfl hb4 rfl) rfl ?_
          refine at_pure (pv_assign rfl) rfl ?_
          refine at_nil ?_
          refine ex_go ?_
          refine cd_ret ?_
          refine ex_in_ret (ex_then_ret ?_)
          exact end_ret1 rfl rfl (fun w hs => ⟨by clear hs; refine congrArg (fun b => Ending.returned (.bool b)) ?_; obtain ⟨i, k, p, q⟩ := z; simp only [fits]; first | (simp_all; done) | (simp_all; omega), hs.keep⟩)
      · skip
        refine cd_seq ?_
        refine cd_region ?_
        refine at_pure (pv_eql rfl rfl) rfl ?_
        refine at_pure (pv_assign rfl) rfl ?_
        refine at_nil ?_
        refine ex_go ?_
        refine cd_if rfl (fun hb5 => ?_) (fun hb5 => ?_)
        · skip
          refine cd_seq ?_
          refine cd_region ?_
          refine at_pure (pv_field0 fa_70_2 rfl (r := 2) rfl) rfl ?_
          refine at_pure (by exact pv_load ld_3 rfl (box_cell .z (.s (.s .z)))) rfl ?_
          refine at_pure (pv_eql rfl rfl) rfl ?_
          refine at_pure (pv_move rfl) rfl ?_
          refine at_split 28 rfl (fun hb6 => ?_) (fun hb6 => ?_)
          · skip
            refine at_pure_g rfl rfl hb6 (pv_field0 fa_70_3 rfl (r := 3) rfl) rfl ?_
            refine at_pure_g rfl rfl hb6 (by exact pv_load ld_3 rfl (box_cell .z (.s (.s (.s .z))))) rfl ?_
            refine at_pure_g rfl rfl hb6 (pv_eql rfl rfl) rfl ?_
            refine at_pure (pv_pick_t rfl hb6 rfl) rfl ?_
            refine at_pure (pv_assign rfl) rfl ?_
            refine at_nil ?_
            refine ex_go ?_
            refine cd_ret ?_
            refine ex_in_ret (ex_then_ret ?_)
            exact end_ret1 rfl rfl (fun w hs => ⟨by clear hs; refine congrArg (fun b => Ending.returned (.bool b)) ?_; obtain ⟨i, k, p, q⟩ := z; simp only [fits]; first | (simp_all; done) | (simp_all; omega), hs.keep⟩)
          · skip
            refine at_skip rfl rfl hb6 rfl ?_
            refine at_skip rfl rfl hb6 rfl ?_
            refine at_skip rfl rfl hb6 rfl ?_
            refine at_pure (pv_pick_f rfl hb6 rfl) rfl ?_
            refine at_pure (pv_assign rfl) rfl ?_
            refine at_nil ?_
            refine ex_go ?_
            refine cd_ret ?_
            refine ex_in_ret (ex_then_ret ?_)
            exact end_ret1 rfl rfl (fun w hs => ⟨by clear hs; refine congrArg (fun b => Ending.returned (.bool b)) ?_; obtain ⟨i, k, p, q⟩ := z; simp only [fits]; first | (simp_all; done) | (simp_all; omega), hs.keep⟩)
        · skip
          refine cd_seq ?_
          refine cd_region ?_
          refine at_pure (pv_eql rfl rfl) rfl ?_
          refine at_pure (pv_assign rfl) rfl ?_
          refine at_nil ?_
          refine ex_go ?_
          refine cd_if rfl (fun hb7 => ?_) (fun hb7 => ?_)
          · skip
            refine cd_seq ?_
            refine cd_region ?_
            refine at_pure (pv_field0 fa_70_2 rfl (r := 2) rfl) rfl ?_
            refine at_pure (by exact pv_load ld_3 rfl (box_cell .z (.s (.s .z)))) rfl ?_
            refine at_pure (pv_geq rfl rfl) rfl ?_
            refine at_pure (pv_move rfl) rfl ?_
            refine at_split 38 rfl (fun hb8 => ?_) (fun hb8 => ?_)
            · skip
              refine at_pure_g rfl rfl hb8 (pv_field0 fa_70_2 rfl (r := 2) rfl) rfl ?_
              refine at_pure_g rfl rfl hb8 (by exact pv_load ld_3 rfl (box_cell .z (.s (.s .z)))) rfl ?_
              refine at_pure_g rfl rfl hb8 (pv_leq rfl rfl) rfl ?_
              refine at_pure (pv_pick_t rfl hb8 rfl) rfl ?_
              refine at_pure (pv_move rfl) rfl ?_
              refine at_split 43 rfl (fun hb9 => ?_) (fun hb9 => ?_)
              · skip
                refine at_pure_g rfl rfl hb9 (pv_field0 fa_70_3 rfl (r := 3) rfl) rfl ?_
                refine at_pure_g rfl rfl hb9 (by exact pv_load ld_3 rfl (box_cell .z (.s (.s (.s .z))))) rfl ?_
                refine at_pure_g rfl rfl hb9 (pv_eql rfl rfl) rfl ?_
                refine at_pure (pv_pick_t rfl hb9 rfl) rfl ?_
                refine at_pure (pv_assign rfl) rfl ?_
                refine at_nil ?_
                refine ex_go ?_
                refine cd_ret ?_
                refine ex_in_ret (ex_then_ret ?_)
                exact end_ret1 rfl rfl (fun w hs => ⟨by clear hs; refine congrArg (fun b => Ending.returned (.bool b)) ?_; obtain ⟨i, k, p, q⟩ := z; simp only [fits]; first | (simp_all; done) | (simp_all; omega), hs.keep⟩)
              · skip
                refine at_skip rfl rfl hb9 rfl ?_
                refine at_skip rfl rfl hb9 rfl ?_
                refine at_skip rfl rfl hb9 rfl ?_
                refine at_pure (pv_pick_f rfl hb9 rfl) rfl ?_
                refine at_pure (pv_assign rfl) rfl ?_
                refine at_nil ?_
                refine ex_go ?_
                refine cd_ret ?_
                refine ex_in_ret (ex_then_ret ?_)
                exact end_ret1 rfl rfl (fun w hs => ⟨by clear hs; refine congrArg (fun b => Ending.returned (.bool b)) ?_; obtain ⟨i, k, p, q⟩ := z; simp only [fits]; first | (simp_all; done) | (simp_all; omega), hs.keep⟩)
            · skip
              refine at_skip rfl rfl hb8 rfl ?_
              refine at_skip rfl rfl hb8 rfl ?_
              refine at_skip rfl rfl hb8 rfl ?_
              refine at_pure (pv_pick_f rfl hb8 rfl) rfl ?_
              refine at_pure (pv_move rfl) rfl ?_
              refine at_skip rfl rfl rfl rfl ?_
              refine at_skip rfl rfl rfl rfl ?_
              refine at_skip rfl rfl rfl rfl ?_
              refine at_pure (pv_pick_f rfl rfl rfl) rfl ?_
              refine at_pure (pv_assign rfl) rfl ?_
              refine at_nil ?_
              refine ex_go ?_
              refine cd_ret ?_
              refine ex_in_ret (ex_then_ret ?_)
              exact end_ret1 rfl rfl (fun w hs => ⟨by clear hs; refine congrArg (fun b => Ending.returned (.bool b)) ?_; obtain ⟨i, k, p, q⟩ := z; simp only [fits]; first | (simp_all; done) | (simp_all; omega), hs.keep⟩)
          · skip
            refine cd_seq ?_
            refine cd_region ?_
            refine at_pure (pv_eql rfl rfl) rfl ?_
            refine at_pure (pv_assign rfl) rfl ?_
            refine at_nil ?_
            refine ex_go ?_
            refine cd_if rfl (fun hb10 => ?_) (fun hb10 => ?_)
            · skip
              refine cd_seq ?_
              refine cd_region ?_
              refine at_pure (pv_field0 fa_70_2 rfl (r := 2) rfl) rfl ?_
              refine at_pure (by exact pv_load ld_3 rfl (box_cell .z (.s (.s .z)))) rfl ?_
              refine at_pure (pv_eql rfl rfl) rfl ?_
              refine at_pure (pv_move rfl) rfl ?_
              refine at_split 53 rfl (fun hb11 => ?_) (fun hb11 => ?_)
              · skip
                refine at_pure_g rfl rfl hb11 (pv_field0 fa_70_3 rfl (r := 3) rfl) rfl ?_
                refine at_pure_g rfl rfl hb11 (by exact pv_load ld_3 rfl (box_cell .z (.s (.s (.s .z))))) rfl ?_
                refine at_pure_g rfl rfl hb11 (pv_eql rfl rfl) rfl ?_
                refine at_pure (pv_pick_t rfl hb11 rfl) rfl ?_
                refine at_pure (pv_assign rfl) rfl ?_
                refine at_nil ?_
                refine ex_go ?_
                refine cd_ret ?_
                refine ex_in_ret (ex_then_ret ?_)
                exact end_ret1 rfl rfl (fun w hs => ⟨by clear hs; refine congrArg (fun b => Ending.returned (.bool b)) ?_; obtain ⟨i, k, p, q⟩ := z; simp only [fits]; first | (simp_all; done) | (simp_all; omega), hs.keep⟩)
              · skip
                refine at_skip rfl rfl hb11 rfl ?_
                refine at_skip rfl rfl hb11 rfl ?_
                refine at_skip rfl rfl hb11 rfl ?_
                refine at_pure (pv_pick_f rfl hb11 rfl) rfl ?_
                refine at_pure (pv_assign rfl) rfl ?_
                refine at_nil ?_
                refine ex_go ?_
                refine cd_ret ?_
                refine ex_in_ret (ex_then_ret ?_)
                exact end_ret1 rfl rfl (fun w hs => ⟨by clear hs; refine congrArg (fun b => Ending.returned (.bool b)) ?_; obtain ⟨i, k, p, q⟩ := z; simp only [fits]; first | (simp_all; done) | (simp_all; omega), hs.keep⟩)
            · skip
              refine cd_seq ?_
              refine cd_region ?_
              refine at_pure (pv_eql rfl rfl) rfl ?_
              refine at_pure (pv_assign rfl) rfl ?_
              refine at_nil ?_
              refine ex_go ?_
              refine cd_if rfl (fun hb12 => ?_) (fun hb12 => ?_)
              · skip
                refine cd_seq ?_
                refine cd_region ?_
                refine at_pure (pv_field0 fa_70_2 rfl (r := 2) rfl) rfl ?_
                refine at_pure (by exact pv_load ld_3 rfl (box_cell .z (.s (.s .z)))) rfl ?_
                refine at_pure (pv_eql rfl rfl) rfl ?_
                refine at_pure (pv_move rfl) rfl ?_
                refine at_split 63 rfl (fun hb13 => ?_) (fun hb13 => ?_)
                · skip
                  refine at_pure_g rfl rfl hb13 (pv_field0 fa_70_3 rfl (r := 3) rfl) rfl ?_
                  refine at_pure_g rfl rfl hb13 (by exact pv_load ld_3 rfl (box_cell .z (.s (.s (.s .z))))) rfl ?_
                  refine at_pure_g rfl rfl hb13 (pv_geq rfl rfl) rfl ?_
                  refine at_pure (pv_pick_t rfl hb13 rfl) rfl ?_
                  refine at_pure (pv_move rfl) rfl ?_
                  refine at_split 68 rfl (fun hb14 => ?_) (fun hb14 => ?_)
                  · skip
                    refine at_pure_g rfl rfl hb14 (pv_field0 fa_70_3 rfl (r := 3) rfl) rfl ?_
                    refine at_pure_g rfl rfl hb14 (by exact pv_load ld_3 rfl (box_cell .z (.s (.s (.s .z))))) rfl ?_
                    refine at_pure_g rfl rfl hb14 (pv_leq rfl rfl) rfl ?_
                    refine at_pure (pv_pick_t rfl hb14 rfl) rfl ?_
                    refine at_pure (pv_assign rfl) rfl ?_
                    refine at_nil ?_
                    refine ex_go ?_
                    refine cd_ret ?_
                    refine ex_in_ret (ex_then_ret ?_)
                    exact end_ret1 rfl rfl (fun w hs => ⟨by clear hs; refine congrArg (fun b => Ending.returned (.bool b)) ?_; obtain ⟨i, k, p, q⟩ := z; simp only [fits]; first | (simp_all; done) | (simp_all; omega), hs.keep⟩)
                  · skip
                    refine at_skip rfl rfl hb14 rfl ?_
                    refine at_skip rfl rfl hb14 rfl ?_
                    refine at_skip rfl rfl hb14 rfl ?_
                    refine at_pure (pv_pick_f rfl hb14 rfl) rfl ?_
                    refine at_pure (pv_assign rfl) rfl ?_
                    refine at_nil ?_
                    refine ex_go ?_
                    refine cd_ret ?_
                    refine ex_in_ret (ex_then_ret ?_)
                    exact end_ret1 rfl rfl (fun w hs => ⟨by clear hs; refine congrArg (fun b => Ending.returned (.bool b)) ?_; obtain ⟨i, k, p, q⟩ := z; simp only [fits]; first | (simp_all; done) | (simp_all; omega), hs.keep⟩)
                · skip
                  refine at_skip rfl rfl hb13 rfl ?_
                  refine at_skip rfl rfl hb13 rfl ?_
                  refine at_skip rfl rfl hb13 rfl ?_
                  refine at_pure (pv_pick_f rfl hb13 rfl) rfl ?_
                  refine at_pure (pv_move rfl) rfl ?_
                  refine at_skip rfl rfl rfl rfl ?_
                  refine at_skip rfl rfl rfl rfl ?_
                  refine at_skip rfl rfl rfl rfl ?_
                  refine at_pure (pv_pick_f rfl rfl rfl) rfl ?_
                  refine at_pure (pv_assign rfl) rfl ?_
                  refine at_nil ?_
                  refine ex_go ?_
                  refine cd_ret ?_
                  refine ex_in_ret (ex_then_ret ?_)
                  exact end_ret1 rfl rfl (fun w hs => ⟨by clear hs; refine congrArg (fun b => Ending.returned (.bool b)) ?_; obtain ⟨i, k, p, q⟩ := z; simp only [fits]; first | (simp_all; done) | (simp_all; omega), hs.keep⟩)
              · skip
                refine cd_skip ?_
                refine ex_in_normal (ex_go ?_)
                refine cd_seq ?_
                refine cd_region ?_
                refine at_pure (pv_assign rfl) rfl ?_
                refine at_nil ?_
                refine ex_go ?_
                refine cd_ret ?_
                exact end_ret1 rfl rfl (fun w hs => ⟨by clear hs; refine congrArg (fun b => Ending.returned (.bool b)) ?_; obtain ⟨i, k, p, q⟩ := z; simp only [fits]; first | (simp_all; done) | (simp_all; omega), hs.keep⟩)

theorem node_is {ns : List Q4} {i : Int} {z : Q4} (h : look ns i = some z) : Ending.returned (.tuple #[.agg (enc4 z).toArray, .bool true]) = .returned (.tuple #[.agg #[.int .i64 (nodeD ns i).1, .int .i64 (nodeD ns i).2.1, .int .i64 (nodeD ns i).2.2.1, .int .i64 (nodeD ns i).2.2.2], .bool (hasN ns i)]) := by unfold nodeD hasN; rw [h]; rfl
theorem node_no {ns : List Q4} {i : Int} (h : look ns i = none) : Ending.returned (.tuple #[.agg #[.int .i64 0, .int .i64 0, .int .i64 0, .int .i64 0], .bool false]) = .returned (.tuple #[.agg #[.int .i64 (nodeD ns i).1, .int .i64 (nodeD ns i).2.1, .int .i64 (nodeD ns i).2.2.1, .int .i64 (nodeD ns i).2.2.2], .bool (hasN ns i)]) := by unfold nodeD hasN; rw [h]; rfl

theorem node_ref (a b : Option Addr) (ca cb : Nat) (ns ls : List Q4) (i : Int) (w : World) (hn : Sl [] enc4 4 w a ca ns) (hl : Sl [] enc4 4 w b cb ls) : Calls Try.prog 62 [.agg #[.slice a ns.length ca, .slice b ls.length cb], .int .i64 i].toArray w (Val (.tuple #[.agg #[.int .i64 (nodeD ns i).1, .int .i64 (nodeD ns i).2.1, .int .i64 (nodeD ns i).2.2.1, .int .i64 (nodeD ns i).2.2.2], .bool (hasN ns i)]) w) := by
  refine calls_body (n := 22) Try.func62 rfl rfl rfl (St.init _ []) ?_
  refine cd_seq ?_
  refine cd_region ?_
  refine at_does (does_box rfl .agg (fun _ => .nil)) rfl (fun g1 => ?_)
  refine at_does (does_alloc ze_70 .agg (fun _ => (.cons .nil))) rfl (fun g2 => ?_)
  refine at_pure (pv_assign rfl) rfl ?_
  refine at_nil ?_
  refine ex_go ?_
  refine cd_seq ?_
  refine cd_seq ?_
  refine cd_region ?_
  refine at_pure (pv_field0 fa_28_0 rfl (r := 0) rfl) rfl ?_
  refine at_pure (by exact pv_load ld_25 rfl (box_cell .z .z)) rfl ?_
  refine at_pure (pv_len Try.underlying25 rfl) rfl ?_
  refine at_pure (pv_move rfl) rfl ?_
  refine at_nil ?_
  refine ex_go ?_
  refine cd_block ?_
  refine cd_loop (σ := Nat) (fun s => [(1, .int .i64 i), (2, Value.pointer (some ⟨g1, 0, none⟩)), (4, Value.pointer (some ⟨g2, 0, none⟩)), (9, .slice a ns.length ca), (10, .int .i64 ns.length), (11, .int .i64 (s : Int))]) (fun s => [Box g1 [.slice a ns.length ca, .slice b ls.length cb] 28, Box g2 [.int .i64 0, .int .i64 0, .int .i64 0, .int .i64 0] 70]) (fun s => s ≤ ns.length ∧ look ns i = look (ns.drop s) i) (fun s => ns.length - s) 0 ⟨Nat.zero_le _, rfl⟩ ⟨rfl, rfl, rfl, rfl, rfl, rfl, trivial⟩ (by repeat first | exact sLn _ | apply sLc | apply sLd) ?_
  rintro k ⟨hk, hq⟩
  refine cd_seq ?_
  refine cd_region ?_
  refine at_pure (pv_lss rfl rfl) rfl ?_
  refine at_nil ?_
  refine ex_go ?_
  refine cd_seq ?_
  refine cd_if rfl (fun hlt => ?_) (fun hlt => ?_)
  · skip
    refine cd_skip ?_
    refine ex_go ?_
    refine cd_seq ?_
    refine cd_block ?_
    refine cd_seq ?_
    have hkl : k < ns.length := by simpa using hlt
    obtain ⟨z, hz⟩ := get_of hkl
    have hsm := hn.sm
    refine cd_region ?_
    refine at_pure (pv_ix Try.underlying25 cz_70 rfl rfl (by first | omega | (simp only [decide_eq_true_eq, decide_eq_false_iff_not] at *; omega)) hn.real (k := k) (by omega)) rfl ?_
    refine at_pure (pv_elems ag_70 rfl (hn.gets hz) rfl) rfl ?_
    refine at_does (does_alloc ze_70 .agg (fun _ => (.cons (.cons .nil)))) rfl (fun g3 => ?_)
    refine at_turns (by exact turns_store sz_70 rfl rfl .agg rfl rfl (.s (.s .z)) (.rep (.rep (.rep (.rep .done)))) (.s (.s .z))) ?_
    refine at_nil ?_
    refine ex_go ?_
    refine cd_seq ?_
    refine cd_region ?_
    refine at_pure (pv_field0 fa_70_0 rfl (r := 0) rfl) rfl ?_
    refine at_pure (by exact pv_load ld_3 rfl (box_cell (.s (.s .z)) .z)) rfl ?_
    refine at_pure (pv_move rfl) rfl ?_
    refine at_pure (pv_eql rfl rfl) rfl ?_
    refine at_nil ?_
    refine ex_go ?_
    refine cd_if rfl (fun hf => ?_) (fun hf => ?_)
    · skip
      refine cd_seq ?_
      refine cd_region ?_
      refine at_pure (by exact pv_loads_box ag_70 rfl (.s (.s .z)) (.take (.take (.take (.take .done))))) rfl ?_
      refine at_turns (by exact turns_store sz_70 rfl rfl .agg rfl rfl (.s .z) (.rep (.rep (.rep (.rep .done)))) (.s .z)) ?_
      refine at_pure (pv_assign rfl) rfl ?_
      refine at_nil ?_
      refine ex_go ?_
      refine cd_ret ?_
      refine ex_in_ret (ex_then_ret (ex_then_ret (ex_in_ret (ex_then_ret ?_))))
      exact end_ct rfl (by exact Lies.box ag_70 rfl (.s .z) rfl) rfl (fun w hs => ⟨by clear hs; first | exact node_is (by rw [hq, drop_of hz]; unfold look; rw [List.find?_cons, show (z.1 == i) = true from hf]) | exact node_no (by rw [hq, List.drop_eq_nil_of_le (by simp at hlt; omega)]; rfl), hs.keep⟩)
    · skip
      refine cd_skip ?_
      refine ex_in_normal (ex_go ?_)
      refine cd_region ?_
      refine at_pure (by first | exact pv_add_n rfl rfl (by unfold In64; omega) | exact pv_add rfl rfl) rfl ?_
      refine at_pure (pv_move rfl) rfl ?_
      refine at_nil ?_
      exact ex_meet (k + 1) ⟨⟨by omega, by rw [hq, drop_of hz]; unfold look; rw [List.find?_cons, show (z.1 == i) = false from hf]⟩, by omega⟩ ⟨rfl, rfl, rfl, rfl, rfl, rfl, trivial⟩ (by repeat first | exact sLn _ | apply sLc | apply sLd)
  · skip
    refine cd_exit ?_
    refine ex_then_exit (ex_then_exit (ex_in (ex_go ?_)))
    refine cd_seq ?_
    refine cd_region ?_
    refine at_pure (pv_build rfl (bu_70_)) rfl ?_
    refine at_turns (by exact turns_store sz_70 rfl rfl .agg rfl rfl (.s .z) (.rep (.rep (.rep (.rep .done)))) (.s .z)) ?_
    refine at_pure (pv_assign rfl) rfl ?_
    refine at_nil ?_
    refine ex_go ?_
    refine cd_ret ?_
    exact end_ct rfl (by exact Lies.box ag_70 rfl (.s .z) rfl) rfl (fun w hs => ⟨by clear hs; first | exact node_is (by rw [hq, drop_of hz]; unfold look; rw [List.find?_cons, show (z.1 == i) = true from hf]) | exact node_no (by rw [hq, List.drop_eq_nil_of_le (by simp at hlt; omega)]; rfl), hs.keep⟩)

theorem ports_ref (a b : Option Addr) (ca cb : Nat) (ns ls : List Q4) (l : Q4) (w : World) (hn : Sl [] enc4 4 w a ca ns) (hl : Sl [] enc4 4 w b cb ls) : Calls Try.prog 63 [.agg #[.slice a ns.length ca, .slice b ls.length cb], .agg #[.int .i64 l.1, .int .i64 l.2.1, .int .i64 l.2.2.1, .int .i64 l.2.2.2]].toArray w (Val (.bool (ports ns l)) w) := by
  refine calls_body (n := 51) Try.func63 rfl rfl rfl (St.init _ []) ?_
  refine cd_seq ?_
  refine cd_region ?_
  refine at_does (does_box rfl .agg (fun _ => .nil)) rfl (fun g1 => ?_)
  refine at_does (does_box rfl .agg (fun _ => (.cons .nil))) rfl (fun g2 => ?_)
  refine at_pure (pv_assign rfl) rfl ?_
  refine at_nil ?_
  refine ex_go ?_
  refine cd_seq ?_
  refine cd_region ?_
  refine at_pure (by exact pv_loads_box ag_28 rfl .z (.take (.take .done))) rfl ?_
  refine at_pure (pv_field0 fa_61_0 rfl (r := 0) rfl) rfl ?_
  refine at_pure (by exact pv_load ld_3 rfl (box_cell (.s .z) .z)) rfl ?_
  refine at_does (does_val cal62 rfl rfl rfl (fun w hs => node_ref _ _ _ _ _ _ _ w (hn.at' hs) (hl.at' hs))) rfl (fun _ => ?_)
  refine at_pure (pv_move rfl) rfl ?_
  refine at_pure (pv_extract rfl rfl) rfl ?_
  refine at_pure (pv_extract rfl rfl) rfl ?_
  refine at_does (does_alloc ze_70 .agg (fun _ => (.cons (.cons .nil)))) rfl (fun g3 => ?_)
  refine at_turns (by exact turns_store sz_70 rfl rfl .agg rfl rfl (.s (.s .z)) (.rep (.rep (.rep (.rep .done)))) (.s (.s .z))) ?_
  refine at_pure (pv_assign rfl) rfl ?_
  refine at_nil ?_
  refine ex_go ?_
  refine cd_seq ?_
  refine cd_region ?_
  refine at_pure (by exact pv_loads_box ag_28 rfl .z (.take (.take .done))) rfl ?_
  refine at_pure (pv_field0 fa_61_2 rfl (r := 2) rfl) rfl ?_
  refine at_pure (by exact pv_load ld_3 rfl (box_cell (.s .z) (.s (.s .z)))) rfl ?_
  refine at_does (does_val cal62 rfl rfl rfl (fun w hs => node_ref _ _ _ _ _ _ _ w (hn.at' hs) (hl.at' hs))) rfl (fun _ => ?_)
  refine at_pure (pv_move rfl) rfl ?_
  refine at_pure (pv_extract rfl rfl) rfl ?_
  refine at_pure (pv_extract rfl rfl) rfl ?_
  refine at_does (does_alloc ze_70 .agg (fun _ => (.cons (.cons (.cons .nil))))) rfl (fun g4 => ?_)
  refine at_turns (by exact turns_store sz_70 rfl rfl .agg rfl rfl (.s (.s (.s .z))) (.rep (.rep (.rep (.rep .done)))) (.s (.s (.s .z)))) ?_
  refine at_pure (pv_assign rfl) rfl ?_
  refine at_nil ?_
  refine ex_go ?_
  refine cd_seq ?_
  refine cd_region ?_
  refine at_pure (pv_move rfl) rfl ?_
  refine at_pure (pv_move rfl) rfl ?_
  refine at_split 24 rfl (fun hb1 => ?_) (fun hb1 => ?_)
  · skip
    refine at_pure_g rfl rfl hb1 (pv_move rfl) rfl ?_
    refine at_pure (pv_pick_t rfl hb1 rfl) rfl ?_
    refine at_pure (pv_move rfl) rfl ?_
    refine at_split 27 rfl (fun hb2 => ?_) (fun hb2 => ?_)
    · skip
      refine at_pure_g rfl rfl hb2 (pv_field0 fa_61_1 rfl (r := 1) rfl) rfl ?_
      refine at_pure_g rfl rfl hb2 (by exact pv_load ld_3 rfl (box_cell (.s .z) (.s .z))) rfl ?_
      refine at_pure_g rfl rfl hb2 (pv_geq rfl rfl) rfl ?_
      refine at_pure (pv_pick_t rfl hb2 rfl) rfl ?_
      refine at_pure (pv_move rfl) rfl ?_
      refine at_split 32 rfl (fun hb3 => ?_) (fun hb3 => ?_)
      · skip
        refine at_pure_g rfl rfl hb3 (pv_field0 fa_61_1 rfl (r := 1) rfl) rfl ?_
        refine at_pure_g rfl rfl hb3 (by exact pv_load ld_3 rfl (box_cell (.s .z) (.s .z))) rfl ?_
        refine at_pure_g rfl rfl hb3 (pv_field0 fa_70_3 rfl (r := 3) rfl) rfl ?_
        refine at_pure_g rfl rfl hb3 (by exact pv_load ld_3 rfl (box_cell (.s (.s .z)) (.s (.s (.s .z))))) rfl ?_
        refine at_pure_g rfl rfl hb3 (pv_lss rfl rfl) rfl ?_
        refine at_pure (pv_pick_t rfl hb3 rfl) rfl ?_
        refine at_pure (pv_move rfl) rfl ?_
        refine at_split 39 rfl (fun hb4 => ?_) (fun hb4 => ?_)
        · skip
          refine at_pure_g rfl rfl hb4 (pv_field0 fa_61_3 rfl (r := 3) rfl) rfl ?_
          refine at_pure_g rfl rfl hb4 (by exact pv_load ld_3 rfl (box_cell (.s .z) (.s (.s (.s .z))))) rfl ?_
          refine at_pure_g rfl rfl hb4 (pv_geq rfl rfl) rfl ?_
          refine at_pure (pv_pick_t rfl hb4 rfl) rfl ?_
          refine at_pure (pv_move rfl) rfl ?_
          refine at_split 44 rfl (fun hb5 => ?_) (fun hb5 => ?_)
          · skip
            refine at_pure_g rfl rfl hb5 (pv_field0 fa_61_3 rfl (r := 3) rfl) rfl ?_
            refine at_pure_g rfl rfl hb5 (by exact pv_load ld_3 rfl (box_cell (.s .z) (.s (.s (.s .z))))) rfl ?_
            refine at_pure_g rfl rfl hb5 (pv_field0 fa_70_2 rfl (r := 2) rfl) rfl ?_
            refine at_pure_g rfl rfl hb5 (by exact pv_load ld_3 rfl (box_cell (.s (.s (.s .z))) (.s (.s .z)))) rfl ?_
            refine at_pure_g rfl rfl hb5 (pv_lss rfl rfl) rfl ?_
            refine at_pure (pv_pick_t rfl hb5 rfl) rfl ?_
            refine at_pure (pv_assign rfl) rfl ?_
            refine at_nil ?_
            refine ex_go ?_
            refine cd_ret ?_
            exact end_ret1 rfl rfl (fun w hs => ⟨by clear hs; refine congrArg (fun b => Ending.returned (.bool b)) ?_; simp only [ports, Bool.and_true, Bool.true_and, Bool.and_false, Bool.false_and, *], hs.keep⟩)
          · skip
            refine at_skip rfl rfl hb5 rfl ?_
            refine at_skip rfl rfl hb5 rfl ?_
            refine at_skip rfl rfl hb5 rfl ?_
            refine at_skip rfl rfl hb5 rfl ?_
            refine at_skip rfl rfl hb5 rfl ?_
            refine at_pure (pv_pick_f rfl hb5 rfl) rfl ?_
            refine at_pure (pv_assign rfl) rfl ?_
            refine at_nil ?_
            refine ex_go ?_
            refine cd_ret ?_
            exact end_ret1 rfl rfl (fun w hs => ⟨by clear hs; refine congrArg (fun b => Ending.returned (.bool b)) ?_; simp only [ports, Bool.and_true, Bool.true_and, Bool.and_false, Bool.false_and, *], hs.keep⟩)
        · skip
          refine at_skip rfl rfl hb4 rfl ?_
          refine at_skip rfl rfl hb4 rfl ?_
          refine at_skip rfl rfl hb4 rfl ?_
          refine at_pure (pv_pick_f rfl hb4 rfl) rfl ?_
          refine at_pure (pv_move rfl) rfl ?_
          refine at_skip rfl rfl rfl rfl ?_
          refine at_skip rfl rfl rfl rfl ?_
          refine at_skip rfl rfl rfl rfl ?_
          refine at_skip rfl rfl rfl rfl ?_
          refine at_skip rfl rfl rfl rfl ?_
          refine at_pure (pv_pick_f rfl rfl rfl) rfl ?_
          refine at_pure (pv_assign rfl) rfl ?_
          refine at_nil ?_
          refine ex_go ?_
          refine cd_ret ?_
          exact end_ret1 rfl rfl (fun w hs => ⟨by clear hs; refine congrArg (fun b => Ending.returned (.bool b)) ?_; simp only [ports, Bool.and_true, Bool.true_and, Bool.and_false, Bool.false_and, *], hs.keep⟩)
      · skip
        refine at_skip rfl rfl hb3 rfl ?_
        refine at_skip rfl rfl hb3 rfl ?_
        refine at_skip rfl rfl hb3 rfl ?_
        refine at_skip rfl rfl hb3 rfl ?_
        refine at_skip rfl rfl hb3 rfl ?_
        refine at_pure (pv_pick_f rfl hb3 rfl) rfl ?_
        refine at_pure (pv_move rfl) rfl ?_
        refine at_skip rfl rfl rfl rfl ?_
        refine at_skip rfl rfl rfl rfl ?_
        refine at_skip rfl rfl rfl rfl ?_
        refine at_pure (pv_pick_f rfl rfl rfl) rfl ?_
        refine at_pure (pv_move rfl) rfl ?_
        refine at_skip rfl rfl rfl rfl ?_
        refine at_skip rfl rfl rfl rfl ?_
        refine at_skip rfl rfl rfl rfl ?_
        refine at_skip rfl rfl rfl rfl ?_
        refine at_skip rfl rfl rfl rfl ?_
        refine at_pure (pv_pick_f rfl rfl rfl) rfl ?_
        refine at_pure (pv_assign rfl) rfl ?_
        refine at_nil ?_
        refine ex_go ?_
        refine cd_ret ?_
        exact end_ret1 rfl rfl (fun w hs => ⟨by clear hs; refine congrArg (fun b => Ending.returned (.bool b)) ?_; simp only [ports, Bool.and_true, Bool.true_and, Bool.and_false, Bool.false_and, *], hs.keep⟩)
    · skip
      refine at_skip rfl rfl hb2 rfl ?_
      refine at_skip rfl rfl hb2 rfl ?_
      refine at_skip rfl rfl hb2 rfl ?_
      refine at_pure (pv_pick_f rfl hb2 rfl) rfl ?_
      refine at_pure (pv_move rfl) rfl ?_
      refine at_skip rfl rfl rfl rfl ?_
      refine at_skip rfl rfl rfl rfl ?_
      refine at_skip rfl rfl rfl rfl ?_
      refine at_skip rfl rfl rfl rfl ?_
      refine at_skip rfl rfl rfl rfl ?_
      refine at_pure (pv_pick_f rfl rfl rfl) rfl ?_
      refine at_pure (pv_move rfl) rfl ?_
      refine at_skip rfl rfl rfl rfl ?_
      refine at_skip rfl rfl rfl rfl ?_
      refine at_skip rfl rfl rfl rfl ?_
      refine at_pure (pv_pick_f rfl rfl rfl) rfl ?_
      refine at_pure (pv_move rfl) rfl ?_
      refine at_skip rfl rfl rfl rfl ?_
      refine at_skip rfl rfl rfl rfl ?_
      refine at_skip rfl rfl rfl rfl ?_
      refine at_skip rfl rfl rfl rfl ?_
      refine at_skip rfl rfl rfl rfl ?_
      refine at_pure (pv_pick_f rfl rfl rfl) rfl ?_
      refine at_pure (pv_assign rfl) rfl ?_
      refine at_nil ?_
      refine ex_go ?_
      refine cd_ret ?_
      exact end_ret1 rfl rfl (fun w hs => ⟨by clear hs; refine congrArg (fun b => Ending.returned (.bool b)) ?_; simp only [ports, Bool.and_true, Bool.true_and, Bool.and_false, Bool.false_and, *], hs.keep⟩)
  · skip
    refine at_skip rfl rfl hb1 rfl ?_
    refine at_pure (pv_pick_f rfl hb1 rfl) rfl ?_
    refine at_pure (pv_move rfl) rfl ?_
    refine at_skip rfl rfl rfl rfl ?_
    refine at_skip rfl rfl rfl rfl ?_
    refine at_skip rfl rfl rfl rfl ?_
    refine at_pure (pv_pick_f rfl rfl rfl) rfl ?_
    refine at_pure (pv_move rfl) rfl ?_
    refine at_skip rfl rfl rfl rfl ?_
    refine at_skip rfl rfl rfl rfl ?_
    refine at_skip rfl rfl rfl rfl ?_
    refine at_skip rfl rfl rfl rfl ?_
    refine at_skip rfl rfl rfl rfl ?_
    refine at_pure (pv_pick_f rfl rfl rfl) rfl ?_
    refine at_pure (pv_move rfl) rfl ?_
    refine at_skip rfl rfl rfl rfl ?_
    refine at_skip rfl rfl rfl rfl ?_
    refine at_skip rfl rfl rfl rfl ?_
    refine at_pure (pv_pick_f rfl rfl rfl) rfl ?_
    refine at_pure (pv_move rfl) rfl ?_
    refine at_skip rfl rfl rfl rfl ?_
    refine at_skip rfl rfl rfl rfl ?_
    refine at_skip rfl rfl rfl rfl ?_
    refine at_skip rfl rfl rfl rfl ?_
    refine at_skip rfl rfl rfl rfl ?_
    refine at_pure (pv_pick_f rfl rfl rfl) rfl ?_
    refine at_pure (pv_assign rfl) rfl ?_
    refine at_nil ?_
    refine ex_go ?_
    refine cd_ret ?_
    exact end_ret1 rfl rfl (fun w hs => ⟨by clear hs; refine congrArg (fun b => Ending.returned (.bool b)) ?_; simp only [ports, Bool.and_true, Bool.true_and, Bool.and_false, Bool.false_and, *], hs.keep⟩)

theorem less_ref (x y : Q4) (w : World) : Calls Try.prog 68 [.agg #[.int .i64 x.1, .int .i64 x.2.1, .int .i64 x.2.2.1, .int .i64 x.2.2.2], .agg #[.int .i64 y.1, .int .i64 y.2.1, .int .i64 y.2.2.1, .int .i64 y.2.2.2]].toArray w (Val (.bool (less x y)) w) := by
  refine calls_body (n := 40) Try.func68 rfl rfl rfl (St.init _ []) ?_
  refine cd_seq ?_
  refine cd_region ?_
  refine at_does (does_box rfl .agg (fun _ => .nil)) rfl (fun g1 => ?_)
  refine at_does (does_box rfl .agg (fun _ => (.cons .nil))) rfl (fun g2 => ?_)
  refine at_pure (pv_assign rfl) rfl ?_
  refine at_nil ?_
  refine ex_go ?_
  refine cd_seq ?_
  refine cd_seq ?_
  refine cd_region ?_
  refine at_pure (pv_field0 fa_61_0 rfl (r := 0) rfl) rfl ?_
  refine at_pure (by exact pv_load ld_3 rfl (box_cell .z .z)) rfl ?_
  refine at_pure (pv_field0 fa_61_0 rfl (r := 0) rfl) rfl ?_
  refine at_pure (by exact pv_load ld_3 rfl (box_cell (.s .z) .z)) rfl ?_
  refine at_pure (pv_neq rfl rfl) rfl ?_
  refine at_nil ?_
  refine ex_go ?_
  refine cd_if rfl (fun hb1 => ?_) (fun hb1 => ?_)
  · skip
    refine cd_seq ?_
    refine cd_region ?_
    refine at_pure (pv_field0 fa_61_0 rfl (r := 0) rfl) rfl ?_
    refine at_pure (by exact pv_load ld_3 rfl (box_cell .z .z)) rfl ?_
    refine at_pure (pv_field0 fa_61_0 rfl (r := 0) rfl) rfl ?_
    refine at_pure (by exact pv_load ld_3 rfl (box_cell (.s .z) .z)) rfl ?_
    refine at_pure (pv_lss rfl rfl) rfl ?_
    refine at_pure (pv_assign rfl) rfl ?_
    refine at_nil ?_
    refine ex_go ?_
    refine cd_ret ?_
    refine ex_then_ret ?_
    exact end_ret1 rfl rfl (fun w hs => ⟨by clear hs; refine congrArg (fun b => Ending.returned (.bool b)) ?_; simp only [less, cond_true, cond_false, *], hs.keep⟩)
  · skip
    refine cd_skip ?_
    refine ex_go ?_
    refine cd_seq ?_
    refine cd_seq ?_
    refine cd_region ?_
    refine at_pure (pv_field0 fa_61_1 rfl (r := 1) rfl) rfl ?_
    refine at_pure (by exact pv_load ld_3 rfl (box_cell .z (.s .z))) rfl ?_
    refine at_pure (pv_field0 fa_61_1 rfl (r := 1) rfl) rfl ?_
    refine at_pure (by exact pv_load ld_3 rfl (box_cell (.s .z) (.s .z))) rfl ?_
    refine at_pure (pv_neq rfl rfl) rfl ?_
    refine at_nil ?_
    refine ex_go ?_
    refine cd_if rfl (fun hb2 => ?_) (fun hb2 => ?_)
    · skip
      refine cd_seq ?_
      refine cd_region ?_
      refine at_pure (pv_field0 fa_61_1 rfl (r := 1) rfl) rfl ?_
      refine at_pure (by exact pv_load ld_3 rfl (box_cell .z (.s .z))) rfl ?_
      refine at_pure (pv_field0 fa_61_1 rfl (r := 1) rfl) rfl ?_
      refine at_pure (by exact pv_load ld_3 rfl (box_cell (.s .z) (.s .z))) rfl ?_
      refine at_pure (pv_lss rfl rfl) rfl ?_
      refine at_pure (pv_assign rfl) rfl ?_
      refine at_nil ?_
      refine ex_go ?_
      refine cd_ret ?_
      refine ex_then_ret ?_
      exact end_ret1 rfl rfl (fun w hs => ⟨by clear hs; refine congrArg (fun b => Ending.returned (.bool b)) ?_; simp only [less, cond_true, cond_false, *], hs.keep⟩)
    · skip
      refine cd_skip ?_
      refine ex_go ?_
      refine cd_seq ?_
      refine cd_seq ?_
      refine cd_region ?_
      refine at_pure (pv_field0 fa_61_2 rfl (r := 2) rfl) rfl ?_
      refine at_pure (by exact pv_load ld_3 rfl (box_cell .z (.s (.s .z)))) rfl ?_
      refine at_pure (pv_field0 fa_61_2 rfl (r := 2) rfl) rfl ?_
      refine at_pure (by exact pv_load ld_3 rfl (box_cell (.s .z) (.s (.s .z)))) rfl ?_
      refine at_pure (pv_neq rfl rfl) rfl ?_
      refine at_nil ?_
      refine ex_go ?_
      refine cd_if rfl (fun hb3 => ?_) (fun hb3 => ?_)
      · skip
        refine cd_seq ?_
        refine cd_region ?_
        refine at_pure (pv_field0 fa_61_2 rfl (r := 2) rfl) rfl ?_
        refine at_pure (by exact pv_load ld_3 rfl (box_cell .z (.s (.s .z)))) rfl ?_
        refine at_pure (pv_field0 fa_61_2 rfl (r := 2) rfl) rfl ?_
        refine at_pure (by exact pv_load ld_3 rfl (box_cell (.s .z) (.s (.s .z)))) rfl ?_
        refine at_pure (pv_lss rfl rfl) rfl ?_
        refine at_pure (pv_assign rfl) rfl ?_
        refine at_nil ?_
        refine ex_go ?_
        refine cd_ret ?_
        refine ex_then_ret ?_
        exact end_ret1 rfl rfl (fun w hs => ⟨by clear hs; refine congrArg (fun b => Ending.returned (.bool b)) ?_; simp only [less, cond_true, cond_false, *], hs.keep⟩)
      · skip
        refine cd_skip ?_
        refine ex_go ?_
        refine cd_seq ?_
        refine cd_region ?_
        refine at_pure (pv_field0 fa_61_3 rfl (r := 3) rfl) rfl ?_
        refine at_pure (by exact pv_load ld_3 rfl (box_cell .z (.s (.s (.s .z))))) rfl ?_
        refine at_pure (pv_field0 fa_61_3 rfl (r := 3) rfl) rfl ?_
        refine at_pure (by exact pv_load ld_3 rfl (box_cell (.s .z) (.s (.s (.s .z))))) rfl ?_
        refine at_pure (pv_lss rfl rfl) rfl ?_
        refine at_pure (pv_assign rfl) rfl ?_
        refine at_nil ?_
        refine ex_go ?_
        refine cd_ret ?_
        exact end_ret1 rfl rfl (fun w hs => ⟨by clear hs; refine congrArg (fun b => Ending.returned (.bool b)) ?_; simp only [less, cond_true, cond_false, *], hs.keep⟩)

theorem in_ref (a : Option Addr) (ca : Nat) (xs : List Int) (i : Int) (w : World) (hx : Sl [] enc1 1 w a ca xs) : Calls Try.prog 82 [.slice a xs.length ca, .int .i64 i].toArray w (Val (.bool (xs.contains i)) w) := by
  refine calls_body (n := 17) Try.func82 rfl rfl rfl (St.init _ []) ?_
  refine cd_seq ?_
  refine cd_region ?_
  refine at_pure (pv_assign rfl) rfl ?_
  refine at_nil ?_
  refine ex_go ?_
  refine cd_seq ?_
  refine cd_seq ?_
  refine cd_region ?_
  refine at_pure (pv_move rfl) rfl ?_
  refine at_pure (pv_len Try.underlying22 rfl) rfl ?_
  refine at_pure (pv_move rfl) rfl ?_
  refine at_nil ?_
  refine ex_go ?_
  refine cd_block ?_
  refine cd_loop (σ := Nat) (fun s => [(1, .int .i64 i), (7, .slice a xs.length ca), (8, .int .i64 xs.length), (9, .int .i64 (s : Int))]) (fun s => []) (fun s => s ≤ xs.length ∧ xs.contains i = (xs.drop s).contains i) (fun s => xs.length - s) 0 ⟨Nat.zero_le _, rfl⟩ ⟨rfl, rfl, rfl, rfl, trivial⟩ (by repeat first | exact sLn _ | apply sLc | apply sLd) ?_
  rintro k ⟨hk, hq⟩
  refine cd_seq ?_
  refine cd_region ?_
  refine at_pure (pv_lss rfl rfl) rfl ?_
  refine at_nil ?_
  refine ex_go ?_
  refine cd_seq ?_
  refine cd_if rfl (fun hlt => ?_) (fun hlt => ?_)
  · skip
    refine cd_skip ?_
    refine ex_go ?_
    refine cd_seq ?_
    refine cd_block ?_
    refine cd_seq ?_
    have hkl : k < xs.length := by simpa using hlt
    obtain ⟨z, hz⟩ := get_of hkl
    have hsm := hx.sm
    refine cd_region ?_
    refine at_pure (pv_ix Try.underlying22 cz_3 rfl rfl (by first | omega | (simp only [decide_eq_true_eq, decide_eq_false_iff_not] at *; omega)) hx.real (k := k) (by omega)) rfl ?_
    refine at_pure (pv_elem0 ld_3 rfl (hx.get hz .z)) rfl ?_
    refine at_pure (pv_assign rfl) rfl ?_
    refine at_nil ?_
    refine ex_go ?_
    refine cd_seq ?_
    refine cd_region ?_
    refine at_pure (pv_move rfl) rfl ?_
    refine at_pure (pv_move rfl) rfl ?_
    refine at_pure (pv_eql rfl rfl) rfl ?_
    refine at_nil ?_
    refine ex_go ?_
    refine cd_if rfl (fun hf => ?_) (fun hf => ?_)
    · skip
      refine cd_seq ?_
      refine cd_region ?_
      refine at_pure (pv_assign rfl) rfl ?_
      refine at_nil ?_
      refine ex_go ?_
      refine cd_ret ?_
      refine ex_in_ret (ex_then_ret (ex_then_ret (ex_in_ret (ex_then_ret ?_))))
      exact end_ret1 rfl rfl (fun w hs => ⟨by clear hs; refine congrArg (fun b => Ending.returned (.bool b)) ?_; first | (rw [hq, drop_of hz, List.contains_cons, show (i == z) = true from (by rw [Bool.beq_comm]; exact hf), Bool.true_or]; done) | (rw [hq, List.drop_eq_nil_of_le (by simp at hlt; omega)]; rfl), hs.keep⟩)
    · skip
      refine cd_skip ?_
      refine ex_in_normal (ex_go ?_)
      refine cd_region ?_
      refine at_pure (by first | exact pv_add_n rfl rfl (by unfold In64; omega) | exact pv_add rfl rfl) rfl ?_
      refine at_pure (pv_move rfl) rfl ?_
      refine at_nil ?_
      exact ex_meet (k + 1) ⟨⟨by omega, by rw [hq, drop_of hz, List.contains_cons, show (i == z) = false from (by rw [Bool.beq_comm]; exact hf), Bool.false_or]⟩, by omega⟩ ⟨rfl, rfl, rfl, rfl, trivial⟩ (by repeat first | exact sLn _ | apply sLc | apply sLd)
  · skip
    refine cd_exit ?_
    refine ex_then_exit (ex_then_exit (ex_in (ex_go ?_)))
    refine cd_seq ?_
    refine cd_region ?_
    refine at_pure (pv_assign rfl) rfl ?_
    refine at_nil ?_
    refine ex_go ?_
    refine cd_ret ?_
    exact end_ret1 rfl rfl (fun w hs => ⟨by clear hs; refine congrArg (fun b => Ending.returned (.bool b)) ?_; first | (rw [hq, drop_of hz, List.contains_cons, show (i == z) = true from (by rw [Bool.beq_comm]; exact hf), Bool.true_or]; done) | (rw [hq, List.drop_eq_nil_of_le (by simp at hlt; omega)]; rfl), hs.keep⟩)

theorem crowded_ref (a b : Option Addr) (ca cb : Nat) (ns ls : List Q4) (l : Q4) (c : Option Addr) (cc : Nat) (xs : List Q4) (w : World) (hn : Sl [] enc4 4 w a ca ns) (hl : Sl [] enc4 4 w b cb ls) (hx : Sl [] enc4 4 w c cc xs) : Calls Try.prog 67 [.agg #[.slice a ns.length ca, .slice b ls.length cb], .agg #[.int .i64 l.1, .int .i64 l.2.1, .int .i64 l.2.2.1, .int .i64 l.2.2.2], .slice c xs.length cc].toArray w (Val (.bool (crowded ns l xs)) w) := by
  refine calls_body (n := 75) Try.func67 rfl rfl rfl (St.init _ []) ?_
  refine cd_seq ?_
  refine cd_region ?_
  refine at_does (does_box rfl .agg (fun _ => .nil)) rfl (fun g1 => ?_)
  refine at_does (does_box rfl .agg (fun _ => (.cons .nil))) rfl (fun g2 => ?_)
  refine at_pure (pv_assign rfl) rfl ?_
  refine at_nil ?_
  refine ex_go ?_
  refine cd_seq ?_
  refine cd_region ?_
  refine at_pure (by exact pv_loads_box ag_28 rfl .z (.take (.take .done))) rfl ?_
  refine at_pure (pv_field0 fa_61_0 rfl (r := 0) rfl) rfl ?_
  refine at_pure (by exact pv_load ld_3 rfl (box_cell (.s .z) .z)) rfl ?_
  refine at_does (does_val cal62 rfl rfl rfl (fun w hs => node_ref _ _ _ _ _ _ _ w (hn.at' hs) (hl.at' hs))) rfl (fun _ => ?_)
  refine at_pure (pv_move rfl) rfl ?_
  refine at_pure (pv_extract rfl rfl) rfl ?_
  refine at_pure (pv_extract rfl rfl) rfl ?_
  refine at_does (does_alloc ze_70 .agg (fun _ => (.cons (.cons .nil)))) rfl (fun g3 => ?_)
  refine at_turns (by exact turns_store sz_70 rfl rfl .agg rfl rfl (.s (.s .z)) (.rep (.rep (.rep (.rep .done)))) (.s (.s .z))) ?_
  refine at_pure (pv_assign rfl) rfl ?_
  refine at_nil ?_
  refine ex_go ?_
  refine cd_seq ?_
  refine cd_region ?_
  refine at_pure (by exact pv_loads_box ag_28 rfl .z (.take (.take .done))) rfl ?_
  refine at_pure (pv_field0 fa_61_2 rfl (r := 2) rfl) rfl ?_
  refine at_pure (by exact pv_load ld_3 rfl (box_cell (.s .z) (.s (.s .z)))) rfl ?_
  refine at_does (does_val cal62 rfl rfl rfl (fun w hs => node_ref _ _ _ _ _ _ _ w (hn.at' hs) (hl.at' hs))) rfl (fun _ => ?_)
  refine at_pure (pv_move rfl) rfl ?_
  refine at_pure (pv_extract rfl rfl) rfl ?_
  refine at_pure (pv_extract rfl rfl) rfl ?_
  refine at_does (does_alloc ze_70 .agg (fun _ => (.cons (.cons (.cons .nil))))) rfl (fun g4 => ?_)
  refine at_turns (by exact turns_store sz_70 rfl rfl .agg rfl rfl (.s (.s (.s .z))) (.rep (.rep (.rep (.rep .done)))) (.s (.s (.s .z)))) ?_
  refine at_pure (pv_assign rfl) rfl ?_
  refine at_nil ?_
  refine ex_go ?_
  refine cd_seq ?_
  refine cd_seq ?_
  refine cd_region ?_
  refine at_pure (pv_move rfl) rfl ?_
  refine at_pure (pv_len Try.underlying26 rfl) rfl ?_
  refine at_pure (pv_move rfl) rfl ?_
  refine at_nil ?_
  refine ex_go ?_
  refine cd_block ?_
  refine cd_loop (σ := Nat) (fun s => [(4, Value.pointer (some ⟨g2, 0, none⟩)), (7, Value.pointer (some ⟨g3, 0, none⟩)), (9, Value.pointer (some ⟨g4, 0, none⟩)), (27, .slice c xs.length cc), (28, .int .i64 xs.length), (29, .int .i64 (s : Int))]) (fun s => [Box g1 [.slice a ns.length ca, .slice b ls.length cb] 28, Box g2 [.int .i64 l.1, .int .i64 l.2.1, .int .i64 l.2.2.1, .int .i64 l.2.2.2] 61, Box g3 [.int .i64 (nodeD ns l.1).1, .int .i64 (nodeD ns l.1).2.1, .int .i64 (nodeD ns l.1).2.2.1, .int .i64 (nodeD ns l.1).2.2.2] 70, Box g4 [.int .i64 (nodeD ns l.2.2.1).1, .int .i64 (nodeD ns l.2.2.1).2.1, .int .i64 (nodeD ns l.2.2.1).2.2.1, .int .i64 (nodeD ns l.2.2.1).2.2.2] 70]) (fun s => s ≤ xs.length ∧ crowded ns l xs = crowded ns l (xs.drop s)) (fun s => xs.length - s) 0 ⟨Nat.zero_le _, rfl⟩ ⟨rfl, rfl, rfl, rfl, rfl, rfl, trivial⟩ (by repeat first | exact sLn _ | apply sLc | apply sLd) ?_
  rintro k ⟨hk, hq⟩
  refine cd_seq ?_
  refine cd_region ?_
  refine at_pure (pv_lss rfl rfl) rfl ?_
  refine at_nil ?_
  refine ex_go ?_
  refine cd_seq ?_
  refine cd_if rfl (fun hlt => ?_) (fun hlt => ?_)
  · skip
    refine cd_skip ?_
    refine ex_go ?_
    refine cd_seq ?_
    refine cd_block ?_
    refine cd_seq ?_
    have hkl : k < xs.length := by simpa using hlt
    obtain ⟨z, hz⟩ := get_of hkl
    have hsm := hx.sm
    refine cd_region ?_
    refine at_pure (pv_ix Try.underlying26 cz_61 rfl rfl (by first | omega | (simp only [decide_eq_true_eq, decide_eq_false_iff_not] at *; omega)) hx.real (k := k) (by omega)) rfl ?_
    refine at_pure (pv_elems ag_61 rfl (hx.gets hz) rfl) rfl ?_
    refine at_does (does_alloc ze_61 .agg (fun _ => (.cons (.cons (.cons (.cons .nil)))))) rfl (fun g5 => ?_)
    refine at_turns (by exact turns_store sz_61 rfl rfl .agg rfl rfl (.s (.s (.s (.s .z)))) (.rep (.rep (.rep (.rep .done)))) (.s (.s (.s (.s .z))))) ?_
    refine at_nil ?_
    refine ex_go ?_
    refine cd_seq ?_
    refine cd_region ?_
    refine at_pure (pv_field0 fa_61_2 rfl (r := 2) rfl) rfl ?_
    refine at_pure (by exact pv_load ld_3 rfl (box_cell (.s (.s (.s (.s .z)))) (.s (.s .z)))) rfl ?_
    refine at_pure (pv_field0 fa_61_2 rfl (r := 2) rfl) rfl ?_
    refine at_pure (by exact pv_load ld_3 rfl (box_cell (.s .z) (.s (.s .z)))) rfl ?_
    refine at_pure (pv_eql rfl rfl) rfl ?_
    refine at_pure (pv_move rfl) rfl ?_
    refine at_split 38 rfl (fun hb2 => ?_) (fun hb2 => ?_)
    · skip
      refine at_pure_g rfl rfl hb2 (pv_field0 fa_61_3 rfl (r := 3) rfl) rfl ?_
      refine at_pure_g rfl rfl hb2 (by exact pv_load ld_3 rfl (box_cell (.s (.s (.s (.s .z)))) (.s (.s (.s .z))))) rfl ?_
      refine at_pure_g rfl rfl hb2 (pv_field0 fa_61_3 rfl (r := 3) rfl) rfl ?_
      refine at_pure_g rfl rfl hb2 (by exact pv_load ld_3 rfl (box_cell (.s .z) (.s (.s (.s .z))))) rfl ?_
      refine at_pure_g rfl rfl hb2 (pv_eql rfl rfl) rfl ?_
      refine at_pure (pv_pick_t rfl hb2 rfl) rfl ?_
      refine at_pure (pv_move rfl) rfl ?_
      refine at_split 45 rfl (fun hb3 => ?_) (fun hb3 => ?_)
      · skip
        refine at_pure_g rfl rfl hb3 (pv_field0 fa_70_1 rfl (r := 1) rfl) rfl ?_
        refine at_pure_g rfl rfl hb3 (by exact pv_load ld_3 rfl (box_cell (.s (.s (.s .z))) (.s .z))) rfl ?_
        refine at_pure_g rfl rfl hb3 (pv_neq rfl rfl) rfl ?_
        refine at_pure (pv_pick_t rfl hb3 rfl) rfl ?_
        refine at_pure (pv_move rfl) rfl ?_
        refine at_split 50 rfl (fun hb4 => ?_) (fun hb4 => ?_)
        · skip
          refine at_skip rfl rfl hb4 rfl ?_
          refine at_skip rfl rfl hb4 rfl ?_
          refine at_skip rfl rfl hb4 rfl ?_
          refine at_skip rfl rfl hb4 rfl ?_
          refine at_skip rfl rfl hb4 rfl ?_
          refine at_skip rfl rfl hb4 rfl ?_
          refine at_skip_u rfl rfl rfl ?_
          refine at_skip_u rfl rfl rfl ?_
          refine at_skip_u rfl rfl rfl ?_
          refine at_skip_u rfl rfl rfl ?_
          refine at_skip_u rfl rfl rfl ?_
          refine at_skip rfl rfl hb4 rfl ?_
          refine at_skip rfl rfl hb4 rfl ?_
          refine at_skip_u rfl rfl rfl ?_
          refine at_skip_u rfl rfl rfl ?_
          refine at_skip_u rfl rfl rfl ?_
          refine at_skip rfl rfl hb4 rfl ?_
          refine at_skip rfl rfl hb4 rfl ?_
          refine at_skip_u rfl rfl rfl ?_
          refine at_skip_u rfl rfl rfl ?_
          refine at_skip_u rfl rfl rfl ?_
          refine at_skip rfl rfl hb4 rfl ?_
          refine at_pure (pv_pick_t rfl hb4 rfl) rfl ?_
          refine at_nil ?_
          refine ex_go ?_
          refine cd_then rfl rfl ?_
          refine cd_seq ?_
          refine cd_region ?_
          refine at_pure (pv_assign rfl) rfl ?_
          refine at_nil ?_
          refine ex_go ?_
          refine cd_ret ?_
          refine ex_in_ret (ex_then_ret (ex_then_ret (ex_in_ret (ex_then_ret ?_))))
          exact end_ret1 rfl rfl (fun w hs => ⟨by clear hs; refine congrArg (fun b => Ending.returned (.bool b)) ?_; first | (rw [hq, drop_of hz]; unfold crowded; rw [List.any_cons, show clash ns z l = true by simp only [clash, Bool.and_true, Bool.true_and, Bool.and_false, Bool.false_and, Bool.or_true, Bool.true_or, Bool.or_false, Bool.false_or, *], Bool.true_or]; done) | (rw [hq, List.drop_eq_nil_of_le (by simp at hlt; omega)]; rfl), hs.keep⟩)
        · skip
          refine at_pure_g rfl rfl hb4 (pv_field0 fa_61_0 rfl (r := 0) rfl) rfl ?_
          refine at_pure_g rfl rfl hb4 (by exact pv_load ld_3 rfl (box_cell (.s (.s (.s (.s .z)))) .z)) rfl ?_
          refine at_pure_g rfl rfl hb4 (pv_field0 fa_61_0 rfl (r := 0) rfl) rfl ?_
          refine at_pure_g rfl rfl hb4 (by exact pv_load ld_3 rfl (box_cell (.s .z) .z)) rfl ?_
          refine at_pure_g rfl rfl hb4 (pv_eql rfl rfl) rfl ?_
          refine at_pure_g rfl rfl hb4 (pv_move rfl) rfl ?_
          refine at_split 56 rfl (fun hb5 => ?_) (fun hb5 => ?_)
          · skip
            refine at_pure_g rfl rfl hb5 (pv_field0 fa_61_1 rfl (r := 1) rfl) rfl ?_
            refine at_pure_g rfl rfl hb5 (by exact pv_load ld_3 rfl (box_cell (.s (.s (.s (.s .z)))) (.s .z))) rfl ?_
            refine at_pure_g rfl rfl hb5 (pv_field0 fa_61_1 rfl (r := 1) rfl) rfl ?_
            refine at_pure_g rfl rfl hb5 (by exact pv_load ld_3 rfl (box_cell (.s .z) (.s .z))) rfl ?_
            refine at_pure_g rfl rfl hb5 (pv_eql rfl rfl) rfl ?_
            refine at_pure_g rfl rfl hb4 (pv_pick_t rfl hb5 rfl) rfl ?_
            refine at_pure_g rfl rfl hb4 (pv_move rfl) rfl ?_
            refine at_split 63 rfl (fun hb6 => ?_) (fun hb6 => ?_)
            · skip
              refine at_pure_g rfl rfl hb6 (pv_field0 fa_70_1 rfl (r := 1) rfl) rfl ?_
              refine at_pure_g rfl rfl hb6 (by exact pv_load ld_3 rfl (box_cell (.s (.s .z)) (.s .z))) rfl ?_
              refine at_pure_g rfl rfl hb6 (pv_neq rfl rfl) rfl ?_
              refine at_pure_g rfl rfl hb4 (pv_pick_t rfl hb6 rfl) rfl ?_
              refine at_pure_g rfl rfl hb4 (pv_move rfl) rfl ?_
              refine at_split 68 rfl (fun hb7 => ?_) (fun hb7 => ?_)
              · skip
                refine at_pure_g rfl rfl hb7 (pv_field0 fa_70_1 rfl (r := 1) rfl) rfl ?_
                refine at_pure_g rfl rfl hb7 (by exact pv_load ld_3 rfl (box_cell (.s (.s .z)) (.s .z))) rfl ?_
                refine at_pure_g rfl rfl hb7 (pv_neq rfl rfl) rfl ?_
                refine at_pure_g rfl rfl hb4 (pv_pick_t rfl hb7 rfl) rfl ?_
                refine at_pure (pv_pick_f rfl hb4 rfl) rfl ?_
                refine at_nil ?_
                refine ex_go ?_
                refine cd_if rfl (fun hb8 => ?_) (fun hb8 => ?_)
                · skip
                  refine cd_seq ?_
                  refine cd_region ?_
                  refine at_pure (pv_assign rfl) rfl ?_
                  refine at_nil ?_
                  refine ex_go ?_
                  refine cd_ret ?_
                  refine ex_in_ret (ex_then_ret (ex_then_ret (ex_in_ret (ex_then_ret ?_))))
                  exact end_ret1 rfl rfl (fun w hs => ⟨by clear hs; refine congrArg (fun b => Ending.returned (.bool b)) ?_; first | (rw [hq, drop_of hz]; unfold crowded; rw [List.any_cons, show clash ns z l = true by simp only [clash, Bool.and_true, Bool.true_and, Bool.and_false, Bool.false_and, Bool.or_true, Bool.true_or, Bool.or_false, Bool.false_or, *], Bool.true_or]; done) | (rw [hq, List.drop_eq_nil_of_le (by simp at hlt; omega)]; rfl), hs.keep⟩)
                · skip
                  refine cd_skip ?_
                  refine ex_in_normal (ex_go ?_)
                  refine cd_region ?_
                  refine at_pure (by first | exact pv_add_n rfl rfl (by unfold In64; omega) | exact pv_add rfl rfl) rfl ?_
                  refine at_pure (pv_move rfl) rfl ?_
                  refine at_nil ?_
                  have hcl : clash ns z l = false := by simp only [clash, Bool.and_true, Bool.true_and, Bool.and_false, Bool.false_and, Bool.or_true, Bool.true_or, Bool.or_false, Bool.false_or, *]
                  exact ex_meet (k + 1) ⟨⟨by omega, by rw [hq, drop_of hz]; unfold crowded; rw [List.any_cons, hcl, Bool.false_or]⟩, by omega⟩ ⟨rfl, rfl, rfl, rfl, rfl, rfl, trivial⟩ (by repeat first | exact sLn _ | apply sLc | apply sLd)
              · skip
                refine at_skip rfl rfl hb7 rfl ?_
                refine at_skip rfl rfl hb7 rfl ?_
                refine at_skip rfl rfl hb7 rfl ?_
                refine at_pure_g rfl rfl hb4 (pv_pick_f rfl hb7 rfl) rfl ?_
                refine at_pure (pv_pick_f rfl hb4 rfl) rfl ?_
                refine at_nil ?_
                refine ex_go ?_
                refine cd_else rfl rfl ?_
                refine cd_skip ?_
                refine ex_in_normal (ex_go ?_)
                refine cd_region ?_
                refine at_pure (by first | exact pv_add_n rfl rfl (by unfold In64; omega) | exact pv_add rfl rfl) rfl ?_
                refine at_pure (pv_move rfl) rfl ?_
                refine at_nil ?_
                have hcl : clash ns z l = false := by simp only [clash, Bool.and_true, Bool.true_and, Bool.and_false, Bool.false_and, Bool.or_true, Bool.true_or, Bool.or_false, Bool.false_or, *]
                exact ex_meet (k + 1) ⟨⟨by omega, by rw [hq, drop_of hz]; unfold crowded; rw [List.any_cons, hcl, Bool.false_or]⟩, by omega⟩ ⟨rfl, rfl, rfl, rfl, rfl, rfl, trivial⟩ (by repeat first | exact sLn _ | apply sLc | apply sLd)
            · skip
              refine at_skip rfl rfl hb6 rfl ?_
              refine at_skip rfl rfl hb6 rfl ?_
              refine at_skip rfl rfl hb6 rfl ?_
              refine at_pure_g rfl rfl hb4 (pv_pick_f rfl hb6 rfl) rfl ?_
              refine at_pure_g rfl rfl hb4 (pv_move rfl) rfl ?_
              refine at_skip rfl rfl rfl rfl ?_
              refine at_skip rfl rfl rfl rfl ?_
              refine at_skip rfl rfl rfl rfl ?_
              refine at_pure_g rfl rfl hb4 (pv_pick_f rfl rfl rfl) rfl ?_
              refine at_pure (pv_pick_f rfl hb4 rfl) rfl ?_
              refine at_nil ?_
              refine ex_go ?_
              refine cd_else rfl rfl ?_
              refine cd_skip ?_
              refine ex_in_normal (ex_go ?_)
              refine cd_region ?_
              refine at_pure (by first | exact pv_add_n rfl rfl (by unfold In64; omega) | exact pv_add rfl rfl) rfl ?_
              refine at_pure (pv_move rfl) rfl ?_
              refine at_nil ?_
              have hcl : clash ns z l = false := by simp only [clash, Bool.and_true, Bool.true_and, Bool.and_false, Bool.false_and, Bool.or_true, Bool.true_or, Bool.or_false, Bool.false_or, *]
              exact ex_meet (k + 1) ⟨⟨by omega, by rw [hq, drop_of hz]; unfold crowded; rw [List.any_cons, hcl, Bool.false_or]⟩, by omega⟩ ⟨rfl, rfl, rfl, rfl, rfl, rfl, trivial⟩ (by repeat first | exact sLn _ | apply sLc | apply sLd)
          · skip
            refine at_skip rfl rfl hb5 rfl ?_
            refine at_skip rfl rfl hb5 rfl ?_
            refine at_skip rfl rfl hb5 rfl ?_
            refine at_skip rfl rfl hb5 rfl ?_
            refine at_skip rfl rfl hb5 rfl ?_
            refine at_pure_g rfl rfl hb4 (pv_pick_f rfl hb5 rfl) rfl ?_
            refine at_pure_g rfl rfl hb4 (pv_move rfl) rfl ?_
            refine at_skip rfl rfl rfl rfl ?_
            refine at_skip rfl rfl rfl rfl ?_
            refine at_skip rfl rfl rfl rfl ?_
            refine at_pure_g rfl rfl hb4 (pv_pick_f rfl rfl rfl) rfl ?_
            refine at_pure_g rfl rfl hb4 (pv_move rfl) rfl ?_
            refine at_skip rfl rfl rfl rfl ?_
            refine at_skip rfl rfl rfl rfl ?_
            refine at_skip rfl rfl rfl rfl ?_
            refine at_pure_g rfl rfl hb4 (pv_pick_f rfl rfl rfl) rfl ?_
            refine at_pure (pv_pick_f rfl hb4 rfl) rfl ?_
            refine at_nil ?_
            refine ex_go ?_
            refine cd_else rfl rfl ?_
            refine cd_skip ?_
            refine ex_in_normal (ex_go ?_)
            refine cd_region ?_
            refine at_pure (by first | exact pv_add_n rfl rfl (by unfold In64; omega) | exact pv_add rfl rfl) rfl ?_
            refine at_pure (pv_move rfl) rfl ?_
            refine at_nil ?_
            have hcl : clash ns z l = false := by simp only [clash, Bool.and_true, Bool.true_and, Bool.and_false, Bool.false_and, Bool.or_true, Bool.true_or, Bool.or_false, Bool.false_or, *]
            exact ex_meet (k + 1) ⟨⟨by omega, by rw [hq, drop_of hz]; unfold crowded; rw [List.any_cons, hcl, Bool.false_or]⟩, by omega⟩ ⟨rfl, rfl, rfl, rfl, rfl, rfl, trivial⟩ (by repeat first | exact sLn _ | apply sLc | apply sLd)
      · skip
        refine at_skip rfl rfl hb3 rfl ?_
        refine at_skip rfl rfl hb3 rfl ?_
        refine at_skip rfl rfl hb3 rfl ?_
        refine at_pure (pv_pick_f rfl hb3 rfl) rfl ?_
        refine at_pure (pv_move rfl) rfl ?_
        refine at_pure_g rfl rfl rfl (pv_field0 fa_61_0 rfl (r := 0) rfl) rfl ?_
        refine at_pure_g rfl rfl rfl (by exact pv_load ld_3 rfl (box_cell (.s (.s (.s (.s .z)))) .z)) rfl ?_
        refine at_pure_g rfl rfl rfl (pv_field0 fa_61_0 rfl (r := 0) rfl) rfl ?_
        refine at_pure_g rfl rfl rfl (by exact pv_load ld_3 rfl (box_cell (.s .z) .z)) rfl ?_
        refine at_pure_g rfl rfl rfl (pv_eql rfl rfl) rfl ?_
        refine at_pure_g rfl rfl rfl (pv_move rfl) rfl ?_
        refine at_split 56 rfl (fun hb9 => ?_) (fun hb9 => ?_)
        · skip
          refine at_pure_g rfl rfl hb9 (pv_field0 fa_61_1 rfl (r := 1) rfl) rfl ?_
          refine at_pure_g rfl rfl hb9 (by exact pv_load ld_3 rfl (box_cell (.s (.s (.s (.s .z)))) (.s .z))) rfl ?_
          refine at_pure_g rfl rfl hb9 (pv_field0 fa_61_1 rfl (r := 1) rfl) rfl ?_
          refine at_pure_g rfl rfl hb9 (by exact pv_load ld_3 rfl (box_cell (.s .z) (.s .z))) rfl ?_
          refine at_pure_g rfl rfl hb9 (pv_eql rfl rfl) rfl ?_
          refine at_pure_g rfl rfl rfl (pv_pick_t rfl hb9 rfl) rfl ?_
          refine at_pure_g rfl rfl rfl (pv_move rfl) rfl ?_
          refine at_split 63 rfl (fun hb10 => ?_) (fun hb10 => ?_)
          · skip
            refine at_pure_g rfl rfl hb10 (pv_field0 fa_70_1 rfl (r := 1) rfl) rfl ?_
            refine at_pure_g rfl rfl hb10 (by exact pv_load ld_3 rfl (box_cell (.s (.s .z)) (.s .z))) rfl ?_
            refine at_pure_g rfl rfl hb10 (pv_neq rfl rfl) rfl ?_
            refine at_pure_g rfl rfl rfl (pv_pick_t rfl hb10 rfl) rfl ?_
            refine at_pure_g rfl rfl rfl (pv_move rfl) rfl ?_
            refine at_split 68 rfl (fun hb11 => ?_) (fun hb11 => ?_)
            · skip
              refine at_pure_g rfl rfl hb11 (pv_field0 fa_70_1 rfl (r := 1) rfl) rfl ?_
              refine at_pure_g rfl rfl hb11 (by exact pv_load ld_3 rfl (box_cell (.s (.s .z)) (.s .z))) rfl ?_
              refine at_pure_g rfl rfl hb11 (pv_neq rfl rfl) rfl ?_
              refine at_pure_g rfl rfl rfl (pv_pick_t rfl hb11 rfl) rfl ?_
              refine at_pure (pv_pick_f rfl rfl rfl) rfl ?_
              refine at_nil ?_
              refine ex_go ?_
              refine cd_if rfl (fun hb12 => ?_) (fun hb12 => ?_)
              · skip
                refine cd_seq ?_
                refine cd_region ?_
                refine at_pure (pv_assign rfl) rfl ?_
                refine at_nil ?_
                refine ex_go ?_
                refine cd_ret ?_
                refine ex_in_ret (ex_then_ret (ex_then_ret (ex_in_ret (ex_then_ret ?_))))
                exact end_ret1 rfl rfl (fun w hs => ⟨by clear hs; refine congrArg (fun b => Ending.returned (.bool b)) ?_; first | (rw [hq, drop_of hz]; unfold crowded; rw [List.any_cons, show clash ns z l = true by simp only [clash, Bool.and_true, Bool.true_and, Bool.and_false, Bool.false_and, Bool.or_true, Bool.true_or, Bool.or_false, Bool.false_or, *], Bool.true_or]; done) | (rw [hq, List.drop_eq_nil_of_le (by simp at hlt; omega)]; rfl), hs.keep⟩)
              · skip
                refine cd_skip ?_
                refine ex_in_normal (ex_go ?_)
                refine cd_region ?_
                refine at_pure (by first | exact pv_add_n rfl rfl (by unfold In64; omega) | exact pv_add rfl rfl) rfl ?_
                refine at_pure (pv_move rfl) rfl ?_
                refine at_nil ?_
                have hcl : clash ns z l = false := by simp only [clash, Bool.and_true, Bool.true_and, Bool.and_false, Bool.false_and, Bool.or_true, Bool.true_or, Bool.or_false, Bool.false_or, *]
                exact ex_meet (k + 1) ⟨⟨by omega, by rw [hq, drop_of hz]; unfold crowded; rw [List.any_cons, hcl, Bool.false_or]⟩, by omega⟩ ⟨rfl, rfl, rfl, rfl, rfl, rfl, trivial⟩ (by repeat first | exact sLn _ | apply sLc | apply sLd)
            · skip
              refine at_skip rfl rfl hb11 rfl ?_
              refine at_skip rfl rfl hb11 rfl ?_
              refine at_skip rfl rfl hb11 rfl ?_
              refine at_pure_g rfl rfl rfl (pv_pick_f rfl hb11 rfl) rfl ?_
              refine at_pure (pv_pick_f rfl rfl rfl) rfl ?_
              refine at_nil ?_
              refine ex_go ?_
              refine cd_else rfl rfl ?_
              refine cd_skip ?_
              refine ex_in_normal (ex_go ?_)
              refine cd_region ?_
              refine at_pure (by first | exact pv_add_n rfl rfl (by unfold In64; omega) | exact pv_add rfl rfl) rfl ?_
              refine at_pure (pv_move rfl) rfl ?_
              refine at_nil ?_
              have hcl : clash ns z l = false := by simp only [clash, Bool.and_true, Bool.true_and, Bool.and_false, Bool.false_and, Bool.or_true, Bool.true_or, Bool.or_false, Bool.false_or, *]
              exact ex_meet (k + 1) ⟨⟨by omega, by rw [hq, drop_of hz]; unfold crowded; rw [List.any_cons, hcl, Bool.false_or]⟩, by omega⟩ ⟨rfl, rfl, rfl, rfl, rfl, rfl, trivial⟩ (by repeat first | exact sLn _ | apply sLc | apply sLd)
          · skip
            refine at_skip rfl rfl hb10 rfl ?_
            refine at_skip rfl rfl hb10 rfl ?_
            refine at_skip rfl rfl hb10 rfl ?_
            refine at_pure_g rfl rfl rfl (pv_pick_f rfl hb10 rfl) rfl ?_
            refine at_pure_g rfl rfl rfl (pv_move rfl) rfl ?_
            refine at_skip rfl rfl rfl rfl ?_
            refine at_skip rfl rfl rfl rfl ?_
            refine at_skip rfl rfl rfl rfl ?_
            refine at_pure_g rfl rfl rfl (pv_pick_f rfl rfl rfl) rfl ?_
            refine at_pure (pv_pick_f rfl rfl rfl) rfl ?_
            refine at_nil ?_
            refine ex_go ?_
            refine cd_else rfl rfl ?_
            refine cd_skip ?_
            refine ex_in_normal (ex_go ?_)
            refine cd_region ?_
            refine at_pure (by first | exact pv_add_n rfl rfl (by unfold In64; omega) | exact pv_add rfl rfl) rfl ?_
            refine at_pure (pv_move rfl) rfl ?_
            refine at_nil ?_
            have hcl : clash ns z l = false := by simp only [clash, Bool.and_true, Bool.true_and, Bool.and_false, Bool.false_and, Bool.or_true, Bool.true_or, Bool.or_false, Bool.false_or, *]
            exact ex_meet (k + 1) ⟨⟨by omega, by rw [hq, drop_of hz]; unfold crowded; rw [List.any_cons, hcl, Bool.false_or]⟩, by omega⟩ ⟨rfl, rfl, rfl, rfl, rfl, rfl, trivial⟩ (by repeat first | exact sLn _ | apply sLc | apply sLd)
        · skip
          refine at_skip rfl rfl hb9 rfl ?_
          refine at_skip rfl rfl hb9 rfl ?_
          refine at_skip rfl rfl hb9 rfl ?_
          refine at_skip rfl rfl hb9 rfl ?_
          refine at_skip rfl rfl hb9 rfl ?_
          refine at_pure_g rfl rfl rfl (pv_pick_f rfl hb9 rfl) rfl ?_
          refine at_pure_g rfl rfl rfl (pv_move rfl) rfl ?_
          refine at_skip rfl rfl rfl rfl ?_
          refine at_skip rfl rfl rfl rfl ?_
          refine at_skip rfl rfl rfl rfl ?_
          refine at_pure_g rfl rfl rfl (pv_pick_f rfl rfl rfl) rfl ?_
          refine at_pure_g rfl rfl rfl (pv_move rfl) rfl ?_
          refine at_skip rfl rfl rfl rfl ?_
          refine at_skip rfl rfl rfl rfl ?_
          refine at_skip rfl rfl rfl rfl ?_
          refine at_pure_g rfl rfl rfl (pv_pick_f rfl rfl rfl) rfl ?_
          refine at_pure (pv_pick_f rfl rfl rfl) rfl ?_
          refine at_nil ?_
          refine ex_go ?_
          refine cd_else rfl rfl ?_
          refine cd_skip ?_
          refine ex_in_normal (ex_go ?_)
          refine cd_region ?_
          refine at_pure (by first | exact pv_add_n rfl rfl (by unfold In64; omega) | exact pv_add rfl rfl) rfl ?_
          refine at_pure (pv_move rfl) rfl ?_
          refine at_nil ?_
          have hcl : clash ns z l = false := by simp only [clash, Bool.and_true, Bool.true_and, Bool.and_false, Bool.false_and, Bool.or_true, Bool.true_or, Bool.or_false, Bool.false_or, *]
          exact ex_meet (k + 1) ⟨⟨by omega, by rw [hq, drop_of hz]; unfold crowded; rw [List.any_cons, hcl, Bool.false_or]⟩, by omega⟩ ⟨rfl, rfl, rfl, rfl, rfl, rfl, trivial⟩ (by repeat first | exact sLn _ | apply sLc | apply sLd)
    · skip
      refine at_skip rfl rfl hb2 rfl ?_
      refine at_skip rfl rfl hb2 rfl ?_
      refine at_skip rfl rfl hb2 rfl ?_
      refine at_skip rfl rfl hb2 rfl ?_
      refine at_skip rfl rfl hb2 rfl ?_
      refine at_pure (pv_pick_f rfl hb2 rfl) rfl ?_
      refine at_pure (pv_move rfl) rfl ?_
      refine at_skip rfl rfl rfl rfl ?_
      refine at_skip rfl rfl rfl rfl ?_
      refine at_skip rfl rfl rfl rfl ?_
      refine at_pure (pv_pick_f rfl rfl rfl) rfl ?_
      refine at_pure (pv_move rfl) rfl ?_
      refine at_pure_g rfl rfl rfl (pv_field0 fa_61_0 rfl (r := 0) rfl) rfl ?_
      refine at_pure_g rfl rfl rfl (by exact pv_load ld_3 rfl (box_cell (.s (.s (.s (.s .z)))) .z)) rfl ?_
      refine at_pure_g rfl rfl rfl (pv_field0 fa_61_0 rfl (r := 0) rfl) rfl ?_
      refine at_pure_g rfl rfl rfl (by exact pv_load ld_3 rfl (box_cell (.s .z) .z)) rfl ?_
      refine at_pure_g rfl rfl rfl (pv_eql rfl rfl) rfl ?_
      refine at_pure_g rfl rfl rfl (pv_move rfl) rfl ?_
      refine at_split 56 rfl (fun hb13 => ?_) (fun hb13 => ?_)
      · skip
        refine at_pure_g rfl rfl hb13 (pv_field0 fa_61_1 rfl (r := 1) rfl) rfl ?_
        refine at_pure_g rfl rfl hb13 (by exact pv_load ld_3 rfl (box_cell (.s (.s (.s (.s .z)))) (.s .z))) rfl ?_
        refine at_pure_g rfl rfl hb13 (pv_field0 fa_61_1 rfl (r := 1) rfl) rfl ?_
        refine at_pure_g rfl rfl hb13 (by exact pv_load ld_3 rfl (box_cell (.s .z) (.s .z))) rfl ?_
        refine at_pure_g rfl rfl hb13 (pv_eql rfl rfl) rfl ?_
        refine at_pure_g rfl rfl rfl (pv_pick_t rfl hb13 rfl) rfl ?_
        refine at_pure_g rfl rfl rfl (pv_move rfl) rfl ?_
        refine at_split 63 rfl (fun hb14 => ?_) (fun hb14 => ?_)
        · skip
          refine at_pure_g rfl rfl hb14 (pv_field0 fa_70_1 rfl (r := 1) rfl) rfl ?_
          refine at_pure_g rfl rfl hb14 (by exact pv_load ld_3 rfl (box_cell (.s (.s .z)) (.s .z))) rfl ?_
          refine at_pure_g rfl rfl hb14 (pv_neq rfl rfl) rfl ?_
          refine at_pure_g rfl rfl rfl (pv_pick_t rfl hb14 rfl) rfl ?_
          refine at_pure_g rfl rfl rfl (pv_move rfl) rfl ?_
          refine at_split 68 rfl (fun hb15 => ?_) (fun hb15 => ?_)
          · skip
            refine at_pure_g rfl rfl hb15 (pv_field0 fa_70_1 rfl (r := 1) rfl) rfl ?_
            refine at_pure_g rfl rfl hb15 (by exact pv_load ld_3 rfl (box_cell (.s (.s .z)) (.s .z))) rfl ?_
            refine at_pure_g rfl rfl hb15 (pv_neq rfl rfl) rfl ?_
            refine at_pure_g rfl rfl rfl (pv_pick_t rfl hb15 rfl) rfl ?_
            refine at_pure (pv_pick_f rfl rfl rfl) rfl ?_
            refine at_nil ?_
            refine ex_go ?_
            refine cd_if rfl (fun hb16 => ?_) (fun hb16 => ?_)
            · skip
              refine cd_seq ?_
              refine cd_region ?_
              refine at_pure (pv_assign rfl) rfl ?_
              refine at_nil ?_
              refine ex_go ?_
              refine cd_ret ?_
              refine ex_in_ret (ex_then_ret (ex_then_ret (ex_in_ret (ex_then_ret ?_))))
              exact end_ret1 rfl rfl (fun w hs => ⟨by clear hs; refine congrArg (fun b => Ending.returned (.bool b)) ?_; first | (rw [hq, drop_of hz]; unfold crowded; rw [List.any_cons, show clash ns z l = true by simp only [clash, Bool.and_true, Bool.true_and, Bool.and_false, Bool.false_and, Bool.or_true, Bool.true_or, Bool.or_false, Bool.false_or, *], Bool.true_or]; done) | (rw [hq, List.drop_eq_nil_of_le (by simp at hlt; omega)]; rfl), hs.keep⟩)
            · skip
              refine cd_skip ?_
              refine ex_in_normal (ex_go ?_)
              refine cd_region ?_
              refine at_pure (by first | exact pv_add_n rfl rfl (by unfold In64; omega) | exact pv_add rfl rfl) rfl ?_
              refine at_pure (pv_move rfl) rfl ?_
              refine at_nil ?_
              have hcl : clash ns z l = false := by simp only [clash, Bool.and_true, Bool.true_and, Bool.and_false, Bool.false_and, Bool.or_true, Bool.true_or, Bool.or_false, Bool.false_or, *]
              exact ex_meet (k + 1) ⟨⟨by omega, by rw [hq, drop_of hz]; unfold crowded; rw [List.any_cons, hcl, Bool.false_or]⟩, by omega⟩ ⟨rfl, rfl, rfl, rfl, rfl, rfl, trivial⟩ (by repeat first | exact sLn _ | apply sLc | apply sLd)
          · skip
            refine at_skip rfl rfl hb15 rfl ?_
            refine at_skip rfl rfl hb15 rfl ?_
            refine at_skip rfl rfl hb15 rfl ?_
            refine at_pure_g rfl rfl rfl (pv_pick_f rfl hb15 rfl) rfl ?_
            refine at_pure (pv_pick_f rfl rfl rfl) rfl ?_
            refine at_nil ?_
            refine ex_go ?_
            refine cd_else rfl rfl ?_
            refine cd_skip ?_
            refine ex_in_normal (ex_go ?_)
            refine cd_region ?_
            refine at_pure (by first | exact pv_add_n rfl rfl (by unfold In64; omega) | exact pv_add rfl rfl) rfl ?_
            refine at_pure (pv_move rfl) rfl ?_
            refine at_nil ?_
            have hcl : clash ns z l = false := by simp only [clash, Bool.and_true, Bool.true_and, Bool.and_false, Bool.false_and, Bool.or_true, Bool.true_or, Bool.or_false, Bool.false_or, *]
            exact ex_meet (k + 1) ⟨⟨by omega, by rw [hq, drop_of hz]; unfold crowded; rw [List.any_cons, hcl, Bool.false_or]⟩, by omega⟩ ⟨rfl, rfl, rfl, rfl, rfl, rfl, trivial⟩ (by repeat first | exact sLn _ | apply sLc | apply sLd)
        · skip
          refine at_skip rfl rfl hb14 rfl ?_
          refine at_skip rfl rfl hb14 rfl ?_
          refine at_skip rfl rfl hb14 rfl ?_
          refine at_pure_g rfl rfl rfl (pv_pick_f rfl hb14 rfl) rfl ?_
          refine at_pure_g rfl rfl rfl (pv_move rfl) rfl ?_
          refine at_skip rfl rfl rfl rfl ?_
          refine at_skip rfl rfl rfl rfl ?_
          refine at_skip rfl rfl rfl rfl ?_
          refine at_pure_g rfl rfl rfl (pv_pick_f rfl rfl rfl) rfl ?_
          refine at_pure (pv_pick_f rfl rfl rfl) rfl ?_
          refine at_nil ?_
          refine ex_go ?_
          refine cd_else rfl rfl ?_
          refine cd_skip ?_
          refine ex_in_normal (ex_go ?_)
          refine cd_region ?_
          refine at_pure (by first | exact pv_add_n rfl rfl (by unfold In64; omega) | exact pv_add rfl rfl) rfl ?_
          refine at_pure (pv_move rfl) rfl ?_
          refine at_nil ?_
          have hcl : clash ns z l = false := by simp only [clash, Bool.and_true, Bool.true_and, Bool.and_false, Bool.false_and, Bool.or_true, Bool.true_or, Bool.or_false, Bool.false_or, *]
          exact ex_meet (k + 1) ⟨⟨by omega, by rw [hq, drop_of hz]; unfold crowded; rw [List.any_cons, hcl, Bool.false_or]⟩, by omega⟩ ⟨rfl, rfl, rfl, rfl, rfl, rfl, trivial⟩ (by repeat first | exact sLn _ | apply sLc | apply sLd)
      · skip
        refine at_skip rfl rfl hb13 rfl ?_
        refine at_skip rfl rfl hb13 rfl ?_
        refine at_skip rfl rfl hb13 rfl ?_
        refine at_skip rfl rfl hb13 rfl ?_
        refine at_skip rfl rfl hb13 rfl ?_
        refine at_pure_g rfl rfl rfl (pv_pick_f rfl hb13 rfl) rfl ?_
        refine at_pure_g rfl rfl rfl (pv_move rfl) rfl ?_
        refine at_skip rfl rfl rfl rfl ?_
        refine at_skip rfl rfl rfl rfl ?_
        refine at_skip rfl rfl rfl rfl ?_
        refine at_pure_g rfl rfl rfl (pv_pick_f rfl rfl rfl) rfl ?_
        refine at_pure_g rfl rfl rfl (pv_move rfl) rfl ?_
        refine at_skip rfl rfl rfl rfl ?_
        refine at_skip rfl rfl rfl rfl ?_
        refine at_skip rfl rfl rfl rfl ?_
        refine at_pure_g rfl rfl rfl (pv_pick_f rfl rfl rfl) rfl ?_
        refine at_pure (pv_pick_f rfl rfl rfl) rfl ?_
        refine at_nil ?_
        refine ex_go ?_
        refine cd_else rfl rfl ?_
        refine cd_skip ?_
        refine ex_in_normal (ex_go ?_)
        refine cd_region ?_
        refine at_pure (by first | exact pv_add_n rfl rfl (by unfold In64; omega) | exact pv_add rfl rfl) rfl ?_
        refine at_pure (pv_move rfl) rfl ?_
        refine at_nil ?_
        have hcl : clash ns z l = false := by simp only [clash, Bool.and_true, Bool.true_and, Bool.and_false, Bool.false_and, Bool.or_true, Bool.true_or, Bool.or_false, Bool.false_or, *]
        exact ex_meet (k + 1) ⟨⟨by omega, by rw [hq, drop_of hz]; unfold crowded; rw [List.any_cons, hcl, Bool.false_or]⟩, by omega⟩ ⟨rfl, rfl, rfl, rfl, rfl, rfl, trivial⟩ (by repeat first | exact sLn _ | apply sLc | apply sLd)
  · skip
    refine cd_exit ?_
    refine ex_then_exit (ex_then_exit (ex_in (ex_go ?_)))
    refine cd_seq ?_
    refine cd_region ?_
    refine at_pure (pv_assign rfl) rfl ?_
    refine at_nil ?_
    refine ex_go ?_
    refine cd_ret ?_
    exact end_ret1 rfl rfl (fun w hs => ⟨by clear hs; refine congrArg (fun b => Ending.returned (.bool b)) ?_; first | (rw [hq, drop_of hz]; unfold crowded; rw [List.any_cons, show clash ns z l = true by simp only [clash, Bool.and_true, Bool.true_and, Bool.and_false, Bool.false_and, Bool.or_true, Bool.true_or, Bool.or_false, Bool.false_or, *], Bool.true_or]; done) | (rw [hq, List.drop_eq_nil_of_le (by simp at hlt; omega)]; rfl), hs.keep⟩)

theorem eq4_of {x y : Q4} {b : Bool} (h : eqCells (enc4 x) [.int .i64 y.1, .int .i64 y.2.1, .int .i64 y.2.2.1, .int .i64 y.2.2.2] = b) : (x == y) = b := (eqCells4 x y).symm.trans h

theorem has_ref (a b : Option Addr) (ca cb : Nat) (ns ls : List Q4) (l : Q4) (w : World) (hn : Sl [] enc4 4 w a ca ns) (hl : Sl [] enc4 4 w b cb ls) : Calls Try.prog 64 [.agg #[.slice a ns.length ca, .slice b ls.length cb], .agg #[.int .i64 l.1, .int .i64 l.2.1, .int .i64 l.2.2.1, .int .i64 l.2.2.2]].toArray w (Val (.bool (ls.contains l)) w) := by
  refine calls_body (n := 18) Try.func64 rfl rfl rfl (St.init _ []) ?_
  refine cd_seq ?_
  refine cd_region ?_
  refine at_does (does_box rfl .agg (fun _ => .nil)) rfl (fun g1 => ?_)
  refine at_does (does_box rfl .agg (fun _ => (.cons .nil))) rfl (fun g2 => ?_)
  refine at_pure (pv_assign rfl) rfl ?_
  refine at_nil ?_
  refine ex_go ?_
  refine cd_seq ?_
  refine cd_seq ?_
  refine cd_region ?_
  refine at_pure (pv_field0 fa_28_1 rfl (r := 1) rfl) rfl ?_
  refine at_pure (by exact pv_load ld_26 rfl (box_cell .z (.s .z))) rfl ?_
  refine at_pure (pv_len Try.underlying26 rfl) rfl ?_
  refine at_pure (pv_move rfl) rfl ?_
  refine at_nil ?_
  refine ex_go ?_
  refine cd_block ?_
  refine cd_loop (σ := Nat) (fun s => [(3, Value.pointer (some ⟨g2, 0, none⟩)), (8, .slice b ls.length cb), (9, .int .i64 ls.length), (10, .int .i64 (s : Int))]) (fun s => [Box g1 [.slice a ns.length ca, .slice b ls.length cb] 28, Box g2 [.int .i64 l.1, .int .i64 l.2.1, .int .i64 l.2.2.1, .int .i64 l.2.2.2] 61]) (fun s => s ≤ ls.length ∧ ls.contains l = (ls.drop s).contains l) (fun s => ls.length - s) 0 ⟨Nat.zero_le _, rfl⟩ ⟨rfl, rfl, rfl, rfl, trivial⟩ (by repeat first | exact sLn _ | apply sLc | apply sLd) ?_
  rintro k ⟨hk, hq⟩
  refine cd_seq ?_
  refine cd_region ?_
  refine at_pure (pv_lss rfl rfl) rfl ?_
  refine at_nil ?_
  refine ex_go ?_
  refine cd_seq ?_
  refine cd_if rfl (fun hlt => ?_) (fun hlt => ?_)
  · skip
    refine cd_skip ?_
    refine ex_go ?_
    refine cd_seq ?_
    refine cd_block ?_
    refine cd_seq ?_
    have hkl : k < ls.length := by simpa using hlt
    obtain ⟨z, hz⟩ := get_of hkl
    have hsm := hl.sm
    refine cd_region ?_
    refine at_pure (pv_ix Try.underlying26 cz_61 rfl rfl (by first | omega | (simp only [decide_eq_true_eq, decide_eq_false_iff_not] at *; omega)) hl.real (k := k) (by omega)) rfl ?_
    refine at_pure (pv_elems ag_61 rfl (hl.gets hz) rfl) rfl ?_
    refine at_does (does_alloc ze_61 .agg (fun _ => (.cons (.cons .nil)))) rfl (fun g3 => ?_)
    refine at_turns (by exact turns_store sz_61 rfl rfl .agg rfl rfl (.s (.s .z)) (.rep (.rep (.rep (.rep .done)))) (.s (.s .z))) ?_
    refine at_nil ?_
    refine ex_go ?_
    refine cd_seq ?_
    refine cd_region ?_
    refine at_pure (by exact pv_loads_box ag_61 rfl (.s (.s .z)) (.take (.take (.take (.take .done))))) rfl ?_
    refine at_pure (by exact pv_loads_box ag_61 rfl (.s .z) (.take (.take (.take (.take .done))))) rfl ?_
    refine at_pure (pv_eqls sb_61 rfl rfl rfl) rfl ?_
    refine at_nil ?_
    refine ex_go ?_
    refine cd_if rfl (fun hf => ?_) (fun hf => ?_)
    · skip
      refine cd_seq ?_
      refine cd_region ?_
      refine at_pure (pv_assign rfl) rfl ?_
      refine at_nil ?_
      refine ex_go ?_
      refine cd_ret ?_
      refine ex_in_ret (ex_then_ret (ex_then_ret (ex_in_ret (ex_then_ret ?_))))
      exact end_ret1 rfl rfl (fun w hs => ⟨by clear hs; refine congrArg (fun b => Ending.returned (.bool b)) ?_; first | (rw [hq, drop_of hz, List.contains_cons, show (l == z) = true from (by rw [Bool.beq_comm]; exact eq4_of hf), Bool.true_or]; done) | (rw [hq, List.drop_eq_nil_of_le (by simp at hlt; omega)]; rfl), hs.keep⟩)
    · skip
      refine cd_skip ?_
      refine ex_in_normal (ex_go ?_)
      refine cd_region ?_
      refine at_pure (by first | exact pv_add_n rfl rfl (by unfold In64; omega) | exact pv_add rfl rfl) rfl ?_
      refine at_pure (pv_move rfl) rfl ?_
      refine at_nil ?_
      exact ex_meet (k + 1) ⟨⟨by omega, by rw [hq, drop_of hz, List.contains_cons, show (l == z) = false from (by rw [Bool.beq_comm]; exact eq4_of hf), Bool.false_or]⟩, by omega⟩ ⟨rfl, rfl, rfl, rfl, trivial⟩ (by repeat first | exact sLn _ | apply sLc | apply sLd)
  · skip
    refine cd_exit ?_
    refine ex_then_exit (ex_then_exit (ex_in (ex_go ?_)))
    refine cd_seq ?_
    refine cd_region ?_
    refine at_pure (pv_assign rfl) rfl ?_
    refine at_nil ?_
    refine ex_go ?_
    refine cd_ret ?_
    exact end_ret1 rfl rfl (fun w hs => ⟨by clear hs; refine congrArg (fun b => Ending.returned (.bool b)) ?_; first | (rw [hq, drop_of hz, List.contains_cons, show (l == z) = true from (by rw [Bool.beq_comm]; exact eq4_of hf), Bool.true_or]; done) | (rw [hq, List.drop_eq_nil_of_le (by simp at hlt; omega)]; rfl), hs.keep⟩)

def freeB (ls : List Q4) (out : List Int) (i : Int) : Bool := !out.contains i && ls.all fun l => l.2.2.1 != i || out.contains l.1
def nextN (ls : List Q4) (out : List Int) : List Q4 → Int
  | [] => 0
  | z :: zs => bif freeB ls out z.1 then z.1 else nextN ls out zs
def orderN (ns ls : List Q4) : Nat → List Int → List Int
  | 0, out => out
  | k + 1, out => bif nextN ls out ns == 0 then out else orderN ns ls k (out ++ [nextN ls out ns])
def orderS (ns ls : List Q4) : List Int := orderN ns ls ns.length []
/-- How many nodes are not yet there. -/
def todo (ns : List Q4) (out : List Int) : Nat := ns.countP fun z => !out.contains z.1
theorem nextN_mem {ls : List Q4} {out : List Int} : ∀ {ns : List Q4}, nextN ls out ns ≠ 0 → ∃ z ∈ ns, z.1 = nextN ls out ns ∧ freeB ls out z.1 = true
  | [], h => absurd rfl h
  | z :: zs, h => by
    unfold nextN at h ⊢
    cases hf : freeB ls out z.1
    · rw [hf] at h
      obtain ⟨y, h1, h2, h3⟩ := nextN_mem (ns := zs) h
      exact ⟨y, by simp [h1], h2, h3⟩
    · exact ⟨z, by simp, rfl, hf⟩
theorem countP_lt {α : Type} {p q : α → Bool} : ∀ {xs : List α}, (∀ x ∈ xs, q x = true → p x = true) → (∃ x ∈ xs, p x = true ∧ q x = false) → xs.countP q < xs.countP p
  | [], _, h => by obtain ⟨x, h, _⟩ := h; cases h
  | x :: xs, h1, h2 => by
    have hle : xs.countP q ≤ xs.countP p := List.countP_mono_left fun y hy hq => h1 y (by simp [hy]) hq
    obtain ⟨y, hy, hp, hq⟩ := h2
    rcases List.mem_cons.1 hy with rfl | hy
    · simp [List.countP_cons, hp, hq]; omega
    · have := countP_lt (xs := xs) (fun z hz => h1 z (by simp [hz])) ⟨y, hy, hp, hq⟩
      simp only [List.countP_cons]
      cases hqx : q x
      · cases p x <;> simp <;> omega
      · simp [h1 x (by simp) hqx]; omega
theorem todo_lt {ns : List Q4} {out : List Int} {z : Q4} (hz : z ∈ ns) (hf : out.contains z.1 = false) : todo ns (out ++ [z.1]) < todo ns out := by
  refine countP_lt (fun x _ h => ?_) ⟨z, hz, by simpa using hf, by simp⟩
  simp at h ⊢
  exact h.1
theorem orderN_stop {ns ls : List Q4} {out : List Int} (h : nextN ls out ns = 0) : ∀ k, orderN ns ls k out = out
  | 0 => rfl
  | k + 1 => by unfold orderN; rw [h]; rfl
theorem freeB_todo {ls : List Q4} {out : List Int} {i : Int} (h : freeB ls out i = true) : out.contains i = false := by
  unfold freeB at h
  simp only [Bool.and_eq_true, Bool.not_eq_true'] at h
  exact h.1
/-- The rounds that are left are enough. -/
def Enough (ns ls : List Q4) (out : List Int) : Prop := ∃ k, todo ns out ≤ k ∧ orderN ns ls k out = orderS ns ls
theorem enough_start (ns ls : List Q4) : Enough ns ls [] := ⟨ns.length, List.countP_le_length, rfl⟩
theorem enough_stop {ns ls : List Q4} {out : List Int} (h : Enough ns ls out) (h0 : nextN ls out ns = 0) : orderS ns ls = out := by
  obtain ⟨k, _, hk⟩ := h
  rw [← hk, orderN_stop h0]
theorem enough_step {ns ls : List Q4} {out : List Int} (h : Enough ns ls out) (h0 : nextN ls out ns ≠ 0) : Enough ns ls (out ++ [nextN ls out ns]) ∧ todo ns (out ++ [nextN ls out ns]) < todo ns out := by
  obtain ⟨z, hz, he, hf⟩ := nextN_mem h0
  have hlt : todo ns (out ++ [nextN ls out ns]) < todo ns out := by rw [← he]; exact todo_lt hz (freeB_todo hf)
  refine ⟨?_, hlt⟩
  obtain ⟨k, h1, h2⟩ := h
  cases k with
  | zero => omega
  | succ k =>
    refine ⟨k, by omega, ?_⟩
    rw [← h2]
    conv => rhs; unfold orderN
    rw [show (nextN ls out ns == 0) = false from beq_eq_false_iff_ne.2 h0]; rfl
theorem todo_len (ns : List Q4) (out : List Int) : todo ns out ≤ ns.length := List.countP_le_length

theorem next_keep {ns ls : List Q4} {out : List Int} {k : Nat} {z : Q4} {nx : Int} (hz : ns[k]? = some z) (hq : (nx = 0 ∧ nextN ls out ns = nextN ls out (ns.drop k)) ∨ (1 ≤ nx ∧ nextN ls out ns = nx)) (h : freeB ls out z.1 = false ∨ nx ≠ 0) :
    (nx = 0 ∧ nextN ls out ns = nextN ls out (ns.drop (k + 1))) ∨ (1 ≤ nx ∧ nextN ls out ns = nx) := by
  rcases hq with ⟨h1, h2⟩ | h1
  · rcases h with h | h
    · refine .inl ⟨h1, ?_⟩
      rw [h2, drop_of hz]
      conv => lhs; unfold nextN
      rw [h]; rfl
    · exact absurd h1 h
  · exact .inr h1
theorem next_take {ns ls : List Q4} {out : List Int} {k : Nat} {z : Q4} {nx : Int} (hz : ns[k]? = some z) (hq : (nx = 0 ∧ nextN ls out ns = nextN ls out (ns.drop k)) ∨ (1 ≤ nx ∧ nextN ls out ns = nx)) (hf : freeB ls out z.1 = true) (h0 : nx = 0) (hp : 1 ≤ z.1) :
    (z.1 = 0 ∧ nextN ls out ns = nextN ls out (ns.drop (k + 1))) ∨ (1 ≤ z.1 ∧ nextN ls out ns = z.1) := by
  rcases hq with ⟨h1, h2⟩ | h1
  · refine .inr ⟨hp, ?_⟩
    rw [h2, drop_of hz]
    unfold nextN
    rw [hf]; rfl
  · omega
theorem next_end {ns ls : List Q4} {out : List Int} {k : Nat} {nx : Int} (hk : ns.length ≤ k) (hq : (nx = 0 ∧ nextN ls out ns = nextN ls out (ns.drop k)) ∨ (1 ≤ nx ∧ nextN ls out ns = nx)) : nextN ls out ns = nx := by
  rcases hq with ⟨h1, h2⟩ | h1
  · rw [h2, List.drop_eq_nil_of_le hk, h1]; rfl
  · exact h1.2

theorem order_ref (a b : Option Addr) (ca cb : Nat) (ns ls : List Q4) (w : World) (hn : Sl [] enc4 4 w a ca ns) (hl : Sl [] enc4 4 w b cb ls) (hsz : ns.length ≤ 64) (hpos : ∀ z ∈ ns, 1 ≤ z.1) : Calls Try.prog 69 [.agg #[.slice a ns.length ca, .slice b ls.length cb]].toArray w (Gives (fun z : Option Addr × Nat => .slice z.1 (orderS ns ls).length z.2) (fun z => [RowP enc1 1 3 z.1 z.2 (orderS ns ls)]) w) := by
  refine calls_body (n := 59) Try.func69 rfl rfl rfl (St.init _ []) ?_
  refine cd_seq ?_
  refine cd_region ?_
  refine at_does (does_box rfl .agg (fun _ => .nil)) rfl (fun g1 => ?_)
  refine at_pure (pv_assign rfl) rfl ?_
  refine at_nil ?_
  refine ex_go ?_
  refine cd_seq ?_
  refine Cd.addNil 3 enc1 1 (.cons .nil) ?_
  refine cd_region ?_
  refine at_pure (pv_assign rfl) rfl ?_
  refine at_nil ?_
  refine ex_go ?_
  refine cd_block ?_
  refine cd_loop (σ := List Int × Option Addr × Nat) (fun s => [(1, Value.pointer (some ⟨g1, 0, none⟩)), (3, .slice s.2.1 s.1.length s.2.2)]) (fun s => [Box g1 [.slice a ns.length ca, .slice b ls.length cb] 28, RowP enc1 1 3 s.2.1 s.2.2 s.1]) (fun s => Enough ns ls s.1 ∧ s.1.length + todo ns s.1 ≤ ns.length) (fun s => todo ns s.1) ([], none, 0) ⟨enough_start ns ls, by have := todo_len ns []; simpa using this⟩ ⟨rfl, rfl, trivial⟩ (by repeat first | exact sLn _ | apply sLc | apply sLd) ?_
  rintro ⟨out, oa, oc⟩ ⟨hen, hcnt⟩
  dsimp only at hen hcnt ⊢
  refine cd_block ?_
  refine cd_seq ?_
  refine cd_region ?_
  refine at_pure (pv_assign rfl) rfl ?_
  refine at_nil ?_
  refine ex_go ?_
  refine cd_seq ?_
  refine cd_seq ?_
  refine cd_region ?_
  refine at_pure (pv_field0 fa_28_0 rfl (r := 0) rfl) rfl ?_
  refine at_pure (by exact pv_load ld_25 rfl (box_cell .z .z)) rfl ?_
  refine at_pure (pv_len Try.underlying25 rfl) rfl ?_
  refine at_pure (pv_move rfl) rfl ?_
  refine at_nil ?_
  refine ex_go ?_
  refine cd_block ?_
  refine cd_loop (σ := Nat × Int) (fun s => [(1, Value.pointer (some ⟨g1, 0, none⟩)), (3, .slice oa out.length oc), (4, .int .i64 s.2), (11, .slice a ns.length ca), (12, .int .i64 ns.length), (13, .int .i64 (s.1 : Int))]) (fun s => [Box g1 [.slice a ns.length ca, .slice b ls.length cb] 28, RowP enc1 1 3 oa oc out]) (fun s => s.1 ≤ ns.length ∧ ((s.2 = 0 ∧ nextN ls out ns = nextN ls out (ns.drop s.1)) ∨ (1 ≤ s.2 ∧ nextN ls out ns = s.2))) (fun s => ns.length - s.1) (0, 0) ⟨Nat.zero_le _, .inl ⟨rfl, rfl⟩⟩ ⟨rfl, rfl, rfl, rfl, rfl, rfl, trivial⟩ (by repeat first | exact sLn _ | apply sLc | apply sLd) ?_
  rintro ⟨k, nx⟩ ⟨hk, hq⟩
  dsimp only at hk hq ⊢
  refine cd_seq ?_
  refine cd_region ?_
  refine at_pure (pv_lss rfl rfl) rfl ?_
  refine at_nil ?_
  refine ex_go ?_
  refine cd_seq ?_
  refine cd_if rfl (fun hlt => ?_) (fun hlt => ?_)
  · skip
    refine cd_skip ?_
    refine ex_go ?_
    refine cd_seq ?_
    refine cd_block ?_
    refine cd_seq ?_
    have hkl : k < ns.length := by simpa using hlt
    obtain ⟨z, hz⟩ := get_of hkl
    have hsm := hn.sm
    refine cd_region ?_
    refine at_pure (pv_ix Try.underlying25 cz_70 rfl rfl (by first | omega | (simp only [decide_eq_true_eq, decide_eq_false_iff_not] at *; omega)) hn.real (k := k) (by omega)) rfl ?_
    refine at_pure (pv_elems ag_70 rfl (hn.gets hz) rfl) rfl ?_
    refine at_does (does_alloc ze_70 .agg (fun _ => (.cons (.cons .nil)))) rfl (fun g2 => ?_)
    refine at_turns (by exact turns_store sz_70 rfl rfl .agg rfl rfl (.s (.s .z)) (.rep (.rep (.rep (.rep .done)))) (.s (.s .z))) ?_
    refine at_nil ?_
    refine ex_go ?_
    refine cd_seq ?_
    refine cd_region ?_
    refine at_pure (pv_move rfl) rfl ?_
    refine at_pure (pv_field0 fa_70_0 rfl (r := 0) rfl) rfl ?_
    refine at_pure (by exact pv_load ld_3 rfl (box_cell (.s (.s .z)) .z)) rfl ?_
    refine at_does (does_val cal82 rfl rfl rfl (fun w hs => in_ref oa oc out _ w (hs.rows len1 (by decide) (.s .z)))) rfl (fun _ => ?_)
    refine at_pure (pv_not rfl) rfl ?_
    refine at_pure (pv_assign rfl) rfl ?_
    refine at_nil ?_
    refine ex_go ?_
    refine cd_seq ?_
    refine cd_seq ?_
    refine cd_region ?_
    refine at_pure (pv_field0 fa_28_1 rfl (r := 1) rfl) rfl ?_
    refine at_pure (by exact pv_load ld_26 rfl (box_cell .z (.s .z))) rfl ?_
    refine at_pure (pv_len Try.underlying26 rfl) rfl ?_
    refine at_pure (pv_move rfl) rfl ?_
    refine at_nil ?_
    refine ex_go ?_
    refine cd_block ?_
    refine cd_loop (σ := Nat × Bool) (fun s => [(1, Value.pointer (some ⟨g1, 0, none⟩)), (3, .slice oa out.length oc), (4, .int .i64 nx), (11, .slice a ns.length ca), (12, .int .i64 ns.length), (13, .int .i64 (k : Int)), (6, Value.pointer (some ⟨g2, 0, none⟩)), (7, .bool s.2), (23, .slice b ls.length cb), (24, .int .i64 ls.length), (25, .int .i64 (s.1 : Int))]) (fun s => [Box g1 [.slice a ns.length ca, .slice b ls.length cb] 28, RowP enc1 1 3 oa oc out, Box g2 (enc4 z) 70]) (fun s => s.1 ≤ ls.length ∧ freeB ls out z.1 = (s.2 && (ls.drop s.1).all fun l => l.2.2.1 != z.1 || out.contains l.1)) (fun s => ls.length - s.1) (0, !out.contains z.1) ⟨Nat.zero_le _, rfl⟩ ⟨rfl, rfl, rfl, rfl, rfl, rfl, rfl, rfl, rfl, rfl, rfl, trivial⟩ (by repeat first | exact sLn _ | apply sLc | apply sLd) ?_
    rintro ⟨j, f⟩ ⟨hj, hq2⟩
    dsimp only at hj hq2 ⊢
    refine cd_seq ?_
    refine cd_region ?_
    refine at_pure (pv_lss rfl rfl) rfl ?_
    refine at_nil ?_
    refine ex_go ?_
    refine cd_seq ?_
    refine cd_if rfl (fun hlt2 => ?_) (fun hlt2 => ?_)
    · skip
      refine cd_skip ?_
      refine ex_go ?_
      refine cd_seq ?_
      refine cd_block ?_
      refine cd_seq ?_
      have hjl : j < ls.length := by simpa using hlt2
      obtain ⟨y, hy⟩ := get_of hjl
      have hsm2 := hl.sm
      refine cd_region ?_
      refine at_pure (pv_ix Try.underlying26 cz_61 rfl rfl (by first | omega | (simp only [decide_eq_true_eq, decide_eq_false_iff_not] at *; omega)) hl.real (k := j) (by omega)) rfl ?_
      refine at_pure (pv_elems ag_61 rfl (hl.gets hy) rfl) rfl ?_
      refine at_does (does_alloc ze_61 .agg (fun _ => (.cons (.cons (.cons .nil))))) rfl (fun g3 => ?_)
      refine at_turns (by exact turns_store sz_61 rfl rfl .agg rfl rfl (.s (.s (.s .z))) (.rep (.rep (.rep (.rep .done)))) (.s (.s (.s .z)))) ?_
      refine at_nil ?_
      refine ex_go ?_
      refine cd_region ?_
      refine at_pure (pv_move rfl) rfl ?_
      refine at_pure (pv_move rfl) rfl ?_
      refine at_split 30 rfl (fun hb3 => ?_) (fun hb3 => ?_)
      · skip
        refine at_pure_g rfl rfl hb3 (pv_field0 fa_61_2 rfl (r := 2) rfl) rfl ?_
        refine at_pure_g rfl rfl hb3 (by exact pv_load ld_3 rfl (box_cell (.s (.s (.s .z))) (.s (.s .z)))) rfl ?_
        refine at_pure_g rfl rfl hb3 (pv_field0 fa_70_0 rfl (r := 0) rfl) rfl ?_
        refine at_pure_g rfl rfl hb3 (by exact pv_load ld_3 rfl (box_cell (.s (.s .z)) .z)) rfl ?_
        refine at_pure_g rfl rfl hb3 (pv_neq rfl rfl) rfl ?_
        refine at_pure_g rfl rfl hb3 (pv_move rfl) rfl ?_
        refine at_split 36 rfl (fun hb4 => ?_) (fun hb4 => ?_)
        · skip
          refine at_skip rfl rfl hb4 rfl ?_
          refine at_skip rfl rfl hb4 rfl ?_
          refine at_skip rfl rfl hb4 rfl ?_
          refine at_skip rfl rfl hb4 rfl ?_
          refine at_pure_g rfl rfl hb3 (pv_pick_t rfl hb4 rfl) rfl ?_
          refine at_pure (pv_pick_t rfl hb3 rfl) rfl ?_
          refine at_pure (pv_assign rfl) rfl ?_
          refine at_nil ?_
          refine ex_in_normal (ex_go ?_)
          refine cd_region ?_
          refine at_pure (by first | exact pv_add_n rfl rfl (by unfold In64; omega) | exact pv_add rfl rfl) rfl ?_
          refine at_pure (pv_move rfl) rfl ?_
          refine at_nil ?_
          exact ex_meet (j + 1, _) ⟨⟨by dsimp only; omega, by have hq3 := hq2; clear hq2; rw [hq3, drop_of hy, List.all_cons]; clear hq3; simp only [Bool.and_true, Bool.true_and, Bool.false_and, Bool.true_or, Bool.false_or, *]⟩, by dsimp only; omega⟩ ⟨rfl, rfl, rfl, rfl, rfl, rfl, rfl, rfl, rfl, rfl, rfl, trivial⟩ (by repeat first | exact sLn _ | apply sLc | apply sLd)
        · skip
          refine at_pure_g rfl rfl hb4 (pv_move rfl) rfl ?_
          refine at_pure_g rfl rfl hb4 (pv_field0 fa_61_0 rfl (r := 0) rfl) rfl ?_
          refine at_pure_g rfl rfl hb4 (by exact pv_load ld_3 rfl (box_cell (.s (.s (.s .z))) .z)) rfl ?_
          refine at_does_g rfl rfl hb4 (does_val cal82 rfl rfl rfl (fun w hs => in_ref oa oc out _ w (hs.rows len1 (by decide) (.s .z)))) rfl (fun _ => ?_)
          refine at_pure_g rfl rfl hb3 (pv_pick_f rfl hb4 rfl) rfl ?_
          refine at_pure (pv_pick_t rfl hb3 rfl) rfl ?_
          refine at_pure (pv_assign rfl) rfl ?_
          refine at_nil ?_
          refine ex_in_normal (ex_go ?_)
          refine cd_region ?_
          refine at_pure (by first | exact pv_add_n rfl rfl (by unfold In64; omega) | exact pv_add rfl rfl) rfl ?_
          refine at_pure (pv_move rfl) rfl ?_
          refine at_nil ?_
          exact ex_meet (j + 1, _) ⟨⟨by dsimp only; omega, by have hq3 := hq2; clear hq2; rw [hq3, drop_of hy, List.all_cons]; clear hq3; simp only [Bool.and_true, Bool.true_and, Bool.false_and, Bool.true_or, Bool.false_or, *]⟩, by dsimp only; omega⟩ ⟨rfl, rfl, rfl, rfl, rfl, rfl, rfl, rfl, rfl, rfl, rfl, trivial⟩ (by repeat first | exact sLn _ | apply sLc | apply sLd)
      · skip
        refine at_skip rfl rfl hb3 rfl ?_
        refine at_skip rfl rfl hb3 rfl ?_
        refine at_skip rfl rfl hb3 rfl ?_
        refine at_skip rfl rfl hb3 rfl ?_
        refine at_skip rfl rfl hb3 rfl ?_
        refine at_skip rfl rfl hb3 rfl ?_
        refine at_skip_u rfl rfl rfl ?_
        refine at_skip_u rfl rfl rfl ?_
        refine at_skip_u rfl rfl rfl ?_
        refine at_skip_u rfl rfl rfl ?_
        refine at_skip rfl rfl hb3 rfl ?_
        refine at_pure (pv_pick_f rfl hb3 rfl) rfl ?_
        refine at_pure (pv_assign rfl) rfl ?_
        refine at_nil ?_
        refine ex_in_normal (ex_go ?_)
        refine cd_region ?_
        refine at_pure (by first | exact pv_add_n rfl rfl (by unfold In64; omega) | exact pv_add rfl rfl) rfl ?_
        refine at_pure (pv_move rfl) rfl ?_
        refine at_nil ?_
        exact ex_meet (j + 1, _) ⟨⟨by dsimp only; omega, by have hq3 := hq2; clear hq2; rw [hq3, drop_of hy, List.all_cons]; clear hq3; simp only [Bool.and_true, Bool.true_and, Bool.false_and, Bool.true_or, Bool.false_or, *]⟩, by dsimp only; omega⟩ ⟨rfl, rfl, rfl, rfl, rfl, rfl, rfl, rfl, rfl, rfl, rfl, trivial⟩ (by repeat first | exact sLn _ | apply sLc | apply sLd)
    · skip
      refine cd_exit ?_
      refine ex_then_exit (ex_then_exit (ex_in (ex_go ?_)))
      refine cd_seq ?_
      have hfree : freeB ls out z.1 = f := by rw [hq2, List.drop_eq_nil_of_le (by simp at hlt2; omega)]; exact Bool.and_true f
      refine cd_region ?_
      refine at_pure (pv_move rfl) rfl ?_
      refine at_pure (pv_move rfl) rfl ?_
      refine at_split 45 rfl (fun hb5 => ?_) (fun hb5 => ?_)
      · skip
        refine at_pure_g rfl rfl hb5 (pv_move rfl) rfl ?_
        refine at_pure_g rfl rfl hb5 (pv_eql rfl rfl) rfl ?_
        refine at_pure (pv_pick_t rfl hb5 rfl) rfl ?_
        refine at_nil ?_
        refine ex_go ?_
        refine cd_if rfl (fun hb6 => ?_) (fun hb6 => ?_)
        · skip
          refine cd_region ?_
          refine at_pure (pv_field0 fa_70_0 rfl (r := 0) rfl) rfl ?_
          refine at_pure (by exact pv_load ld_3 rfl (box_cell (.s (.s .z)) .z)) rfl ?_
          refine at_pure (pv_assign rfl) rfl ?_
          refine at_nil ?_
          refine ex_in_normal (ex_go ?_)
          refine cd_region ?_
          refine at_pure (by first | exact pv_add_n rfl rfl (by unfold In64; omega) | exact pv_add rfl rfl) rfl ?_
          refine at_pure (pv_move rfl) rfl ?_
          refine at_nil ?_
          first | exact ex_meet (k + 1, nx) ⟨⟨by dsimp only; omega, next_keep hz hq (by first | exact .inl (hfree.trans (by assumption)) | exact .inr (beq_eq_false_iff_ne.1 (by assumption)))⟩, by dsimp only; omega⟩ ⟨rfl, rfl, rfl, rfl, rfl, rfl, trivial⟩ (by repeat first | exact sLn _ | apply sLc | apply sLd) | exact ex_meet (k + 1, z.1) ⟨⟨by dsimp only; omega, next_take hz hq (hfree.trans (by assumption)) (beq_iff_eq.1 (by assumption)) (hpos z (List.mem_of_getElem? hz))⟩, by dsimp only; omega⟩ ⟨rfl, rfl, rfl, rfl, rfl, rfl, trivial⟩ (by repeat first | exact sLn _ | apply sLc | apply sLd)
        · skip
          refine cd_skip ?_
          refine ex_in_normal (ex_go ?_)
          refine cd_region ?_
          refine at_pure (by first | exact pv_add_n rfl rfl (by unfold In64; omega) | exact pv_add rfl rfl) rfl ?_
          refine at_pure (pv_move rfl) rfl ?_
          refine at_nil ?_
          first | exact ex_meet (k + 1, nx) ⟨⟨by dsimp only; omega, next_keep hz hq (by first | exact .inl (hfree.trans (by assumption)) | exact .inr (beq_eq_false_iff_ne.1 (by assumption)))⟩, by dsimp only; omega⟩ ⟨rfl, rfl, rfl, rfl, rfl, rfl, trivial⟩ (by repeat first | exact sLn _ | apply sLc | apply sLd) | exact ex_meet (k + 1, z.1) ⟨⟨by dsimp only; omega, next_take hz hq (hfree.trans (by assumption)) (beq_iff_eq.1 (by assumption)) (hpos z (List.mem_of_getElem? hz))⟩, by dsimp only; omega⟩ ⟨rfl, rfl, rfl, rfl, rfl, rfl, trivial⟩ (by repeat first | exact sLn _ | apply sLc | apply sLd)
      · skip
        refine at_skip rfl rfl hb5 rfl ?_
        refine at_skip rfl rfl hb5 rfl ?_
        refine at_pure (pv_pick_f rfl hb5 rfl) rfl ?_
        refine at_nil ?_
        refine ex_go ?_
        refine cd_else rfl rfl ?_
        refine cd_skip ?_
        refine ex_in_normal (ex_go ?_)
        refine cd_region ?_
        refine at_pure (by first | exact pv_add_n rfl rfl (by unfold In64; omega) | exact pv_add rfl rfl) rfl ?_
        refine at_pure (pv_move rfl) rfl ?_
        refine at_nil ?_
        first | exact ex_meet (k + 1, nx) ⟨⟨by dsimp only; omega, next_keep hz hq (by first | exact .inl (hfree.trans (by assumption)) | exact .inr (beq_eq_false_iff_ne.1 (by assumption)))⟩, by dsimp only; omega⟩ ⟨rfl, rfl, rfl, rfl, rfl, rfl, trivial⟩ (by repeat first | exact sLn _ | apply sLc | apply sLd) | exact ex_meet (k + 1, z.1) ⟨⟨by dsimp only; omega, next_take hz hq (hfree.trans (by assumption)) (beq_iff_eq.1 (by assumption)) (hpos z (List.mem_of_getElem? hz))⟩, by dsimp only; omega⟩ ⟨rfl, rfl, rfl, rfl, rfl, rfl, trivial⟩ (by repeat first | exact sLn _ | apply sLc | apply sLd)
  · skip
    refine cd_exit ?_
    refine ex_then_exit (ex_then_exit (ex_in (ex_go ?_)))
    refine cd_seq ?_
    refine cd_seq ?_
    obtain rfl := next_end (by simp at hlt; omega) hq
    refine cd_region ?_
    refine at_pure (pv_move rfl) rfl ?_
    refine at_pure (pv_eql rfl rfl) rfl ?_
    refine at_nil ?_
    refine ex_go ?_
    refine cd_if rfl (fun h0 => ?_) (fun h0 => ?_)
    · skip
      refine cd_seq ?_
      refine cd_region ?_
      refine at_pure (pv_move rfl) rfl ?_
      refine at_pure (pv_assign rfl) rfl ?_
      refine at_nil ?_
      refine ex_go ?_
      refine cd_ret ?_
      refine ex_then_ret (ex_in_ret (ex_then_ret (ex_in_ret ?_)))
      exact end_ret1 rfl rfl (fun w hs => by have he := enough_stop hen (by simpa using h0); exact Gives.mk' (oa, oc) (by rw [he]) (by rw [he]; repeat first | exact sLn _ | apply sLc | apply sLd) hs)
    · have hne : nextN ls out ns ≠ 0 := by simpa using h0
      refine cd_skip ?_
      refine ex_go ?_
      refine cd_region ?_
      refine at_pure (pv_move rfl) rfl ?_
      refine at_pure (pv_move rfl) rfl ?_
      refine at_does (does_list (by rfl) (by exact (bs_22_1_0 _)) (by exact (fun _ => (.cons (.cons .nil))))) rfl (fun g4 => ?_)
      refine at_hands (does_app (ys := [nextN ls out ns]) ⟨len1, by decide, one1⟩ Try.underlying22 ap_3 rfl rfl rfl (.s .z) (fun w hs => hs.box1 (enc := enc1) (.s (.s .z))) (by simp only [List.length_singleton]; omega) (by simp) (fun _ _ => (.s .z))) rfl (fun a9 c9 hr5 hc5 => ?_)
      refine at_pure (pv_assign rfl) rfl ?_
      refine at_nil ?_
      refine ex_in_normal ?_
      exact ex_meet (out ++ [nextN ls out ns], a9, c9) ⟨⟨(enough_step hen hne).1, by have := (enough_step hen hne).2; dsimp only; rw [List.length_append]; simp only [List.length_singleton]; omega⟩, (enough_step hen hne).2⟩ ⟨rfl, rfl, trivial⟩ (by repeat first | exact sLn _ | apply sLc | apply sLd)

def prevO (xs : List Q4) (k : Nat) : Option Q4 := match k with
  | 0 => none
  | k + 1 => xs[k]?
def at0 (xs : List Q4) (k : Nat) : Q4 := xs.getD k (0, 0, 0, 0)
def nodeOkAt (ns : List Q4) (k : Nat) : Bool := match ns[k]? with
  | none => true
  | some z => fits z && (match prevO ns k with
    | none => true
    | some y => decide (y.1 < z.1))
def nodesOk (ns : List Q4) : Bool := (List.range ns.length).all (nodeOkAt ns)
def linkOkAt (ns ls : List Q4) (k : Nat) : Bool := match ls[k]? with
  | none => true
  | some l => ports ns l && (match prevO ls k with
    | none => true
    | some y => less y l) && !crowded ns l (ls.take k)
def linksOk (ns ls : List Q4) : Bool := (List.range ls.length).all (linkOkAt ns ls)
def validS (ns ls : List Q4) : Bool := decide ((ns.length : Int) ≤ 64) && decide ((ls.length : Int) ≤ 256) && nodesOk ns && linksOk ns ls && (((orderS ns ls).length : Int) == (ns.length : Int))
theorem at0_get {xs : List Q4} {k : Nat} (h : k < xs.length) : xs[k]? = some (at0 xs k) := by unfold at0; rw [List.getElem?_eq_getElem h, List.getD_eq_getElem?_getD, List.getElem?_eq_getElem h]; rfl
theorem nodeAt_eq {ns : List Q4} {k : Nat} {z : Q4} (hz : ns[k]? = some z) : nodeOkAt ns k = (fits z && !(decide (0 < (k : Int)) && decide (z.1 ≤ (at0 ns (k - 1)).1))) := by
  have hk := (List.getElem?_eq_some_iff.1 hz).1
  unfold nodeOkAt
  rw [hz]
  cases k with
  | zero => simp [prevO]
  | succ k =>
    simp only [prevO, Nat.add_sub_cancel]
    rw [at0_get (show k < ns.length by omega)]
    have e1 : decide (0 < ((k + 1 : Nat) : Int)) = true := decide_eq_true (by omega)
    rw [e1, Bool.true_and]
    congr 1
    rw [Bool.eq_iff_iff]; simp
theorem linkAt_eq {ns ls : List Q4} {k : Nat} {l : Q4} (hz : ls[k]? = some l) : linkOkAt ns ls k = (ports ns l && !(decide (0 < (k : Int)) && !less (at0 ls (k - 1)) l) && !crowded ns l (ls.take k)) := by
  have hk := (List.getElem?_eq_some_iff.1 hz).1
  unfold linkOkAt
  rw [hz]
  cases k with
  | zero => simp [prevO]
  | succ k =>
    simp only [prevO, Nat.add_sub_cancel]
    rw [at0_get (show k < ls.length by omega)]
    have e1 : decide (0 < ((k + 1 : Nat) : Int)) = true := decide_eq_true (by omega)
    rw [e1, Bool.true_and, Bool.not_not]
theorem all_no {f : Nat → Bool} {n k : Nat} (hk : k < n) (h : f k = false) : (List.range n).all f = false := by
  rw [← Bool.not_eq_true]
  intro h2
  rw [List.all_eq_true] at h2
  have := h2 k (List.mem_range.2 hk)
  rw [h] at this
  cases this
theorem all_yes {f : Nat → Bool} {n : Nat} (h : ∀ j, j < n → f j = true) : (List.range n).all f = true := List.all_eq_true.2 fun j hj => h j (List.mem_range.1 hj)
theorem valid_no0 {ns ls : List Q4} (h : 64 < ns.length ∨ 256 < ls.length) : validS ns ls = false := by
  unfold validS
  rcases h with h | h
  · rw [decide_eq_false (show ¬ (ns.length : Int) ≤ 64 by omega)]; simp
  · rw [decide_eq_false (show ¬ (ls.length : Int) ≤ 256 by omega)]; simp
theorem valid_no1 {ns ls : List Q4} {k : Nat} (hk : k < ns.length) (h : nodeOkAt ns k = false) : validS ns ls = false := by unfold validS nodesOk; rw [all_no hk h]; simp
theorem valid_no2 {ns ls : List Q4} {k : Nat} (hk : k < ls.length) (h : linkOkAt ns ls k = false) : validS ns ls = false := by unfold validS linksOk; rw [all_no hk h]; simp
theorem valid_all {ns ls : List Q4} (h1 : ns.length ≤ 64) (h2 : ls.length ≤ 256) (h3 : ∀ j, j < ns.length → nodeOkAt ns j = true) (h4 : ∀ j, j < ls.length → linkOkAt ns ls j = true) : validS ns ls = (((orderS ns ls).length : Int) == (ns.length : Int)) := by
  unfold validS nodesOk linksOk
  rw [all_yes h3, all_yes h4, decide_eq_true (show (ns.length : Int) ≤ 64 by omega), decide_eq_true (show (ls.length : Int) ≤ 256 by omega)]; simp
theorem pos_of {ns : List Q4} (h : ∀ j, j < ns.length → nodeOkAt ns j = true) : ∀ z ∈ ns, 1 ≤ z.1 := by
  intro z hz
  obtain ⟨k, hk⟩ := List.getElem?_of_mem hz
  have := h k (List.getElem?_eq_some_iff.1 hk).1
  rw [nodeAt_eq hk] at this
  simp [fits] at this
  exact this.1.1.1

theorem upto {f : Nat → Bool} {k : Nat} (h : ∀ j, j < k → f j = true) (hk : f k = true) : ∀ j, j < k + 1 → f j = true := fun j hj => by
  rcases Nat.lt_or_eq_of_le (Nat.le_of_lt_succ hj) with h1 | rfl
  · exact h j h1
  · exact hk

set_option maxRecDepth 10000 in
set_option maxHeartbeats 1000000 in
theorem valid_ref (a b : Option Addr) (ca cb : Nat) (ns ls : List Q4) (w : World) (hn : Sl [] enc4 4 w a ca ns) (hl : Sl [] enc4 4 w b cb ls) : Calls Try.prog 58 [.agg #[.slice a ns.length ca, .slice b ls.length cb]].toArray w (Val (.bool (validS ns ls)) w) := by
  refine calls_body (n := 89) Try.func58 rfl rfl rfl (St.init _ []) ?_
  refine cd_seq ?_
  refine cd_region ?_
  refine at_does (does_box rfl .agg (fun _ => .nil)) rfl (fun g1 => ?_)
  refine at_pure (pv_assign rfl) rfl ?_
  refine at_nil ?_
  refine ex_go ?_
  refine cd_seq ?_
  refine cd_seq ?_
  refine cd_region ?_
  refine at_pure (pv_field0 fa_28_0 rfl (r := 0) rfl) rfl ?_
  refine at_pure (by exact pv_load ld_25 rfl (box_cell .z .z)) rfl ?_
  refine at_pure (pv_len Try.underlying25 rfl) rfl ?_
  refine at_pure (pv_gtr rfl rfl) rfl ?_
  refine at_pure (pv_move rfl) rfl ?_
  refine at_split 11 rfl (fun hb1 => ?_) (fun hb1 => ?_)
  · skip
    refine at_skip rfl rfl hb1 rfl ?_
    refine at_skip rfl rfl hb1 rfl ?_
    refine at_skip rfl rfl hb1 rfl ?_
    refine at_skip rfl rfl hb1 rfl ?_
    refine at_pure (pv_pick_t rfl hb1 rfl) rfl ?_
    refine at_nil ?_
    refine ex_go ?_
    refine cd_then rfl rfl ?_
    refine cd_seq ?_
    refine cd_region ?_
    refine at_pure (pv_assign rfl) rfl ?_
    refine at_nil ?_
    refine ex_go ?_
    refine cd_ret ?_
    refine ex_then_ret ?_
    exact end_ret1 rfl rfl (fun w hs => ⟨by clear hs; refine congrArg (fun b => Ending.returned (.bool b)) ?_; first | exact (valid_all hb64 hb256 hnodes hlinks).symm | exact (valid_no0 (by simp only [decide_eq_true_eq] at *; omega)).symm | exact (valid_no1 hkl (by rw [nodeAt_eq hz]; simp only [Bool.not_eq_true', Bool.not_eq_false'] at *; simp only [Bool.and_true, Bool.true_and, Bool.and_false, Bool.false_and, Bool.or_true, Bool.true_or, Bool.or_false, Bool.false_or, Bool.not_true, Bool.not_false, *])).symm | exact (valid_no2 hkl (by rw [linkAt_eq hz]; simp only [Bool.not_eq_true', Bool.not_eq_false'] at *; simp only [Bool.and_true, Bool.true_and, Bool.and_false, Bool.false_and, Bool.or_true, Bool.true_or, Bool.or_false, Bool.false_or, Bool.not_true, Bool.not_false, *])).symm, hs.keep⟩)
  · skip
    refine at_pure_g rfl rfl hb1 (pv_field0 fa_28_1 rfl (r := 1) rfl) rfl ?_
    refine at_pure_g rfl rfl hb1 (by exact pv_load ld_26 rfl (box_cell .z (.s .z))) rfl ?_
    refine at_pure_g rfl rfl hb1 (pv_len Try.underlying26 rfl) rfl ?_
    refine at_pure_g rfl rfl hb1 (pv_gtr rfl rfl) rfl ?_
    refine at_pure (pv_pick_f rfl hb1 rfl) rfl ?_
    refine at_nil ?_
    refine ex_go ?_
    refine cd_if rfl (fun hb2 => ?_) (fun hb2 => ?_)
    · skip
      refine cd_seq ?_
      refine cd_region ?_
      refine at_pure (pv_assign rfl) rfl ?_
      refine at_nil ?_
      refine ex_go ?_
      refine cd_ret ?_
      refine ex_then_ret ?_
      exact end_ret1 rfl rfl (fun w hs => ⟨by clear hs; refine congrArg (fun b => Ending.returned (.bool b)) ?_; first | exact (valid_all hb64 hb256 hnodes hlinks).symm | exact (valid_no0 (by simp only [decide_eq_true_eq] at *; omega)).symm | exact (valid_no1 hkl (by rw [nodeAt_eq hz]; simp only [Bool.not_eq_true', Bool.not_eq_false'] at *; simp only [Bool.and_true, Bool.true_and, Bool.and_false, Bool.false_and, Bool.or_true, Bool.true_or, Bool.or_false, Bool.false_or, Bool.not_true, Bool.not_false, *])).symm | exact (valid_no2 hkl (by rw [linkAt_eq hz]; simp only [Bool.not_eq_true', Bool.not_eq_false'] at *; simp only [Bool.and_true, Bool.true_and, Bool.and_false, Bool.false_and, Bool.or_true, Bool.true_or, Bool.or_false, Bool.false_or, Bool.not_true, Bool.not_false, *])).symm, hs.keep⟩)
    · skip
      refine cd_skip ?_
      refine ex_go ?_
      refine cd_seq ?_
      refine cd_seq ?_
      have hb64 : ns.length ≤ 64 := by simp only [decide_eq_false_iff_not] at *; omega
      have hb256 : ls.length ≤ 256 := by simp only [decide_eq_false_iff_not] at *; omega
      refine cd_region ?_
      refine at_pure (pv_field0 fa_28_0 rfl (r := 0) rfl) rfl ?_
      refine at_pure (by exact pv_load ld_25 rfl (box_cell .z .z)) rfl ?_
      refine at_pure (pv_len Try.underlying25 rfl) rfl ?_
      refine at_pure (pv_move rfl) rfl ?_
      refine at_nil ?_
      refine ex_go ?_
      refine cd_block ?_
      refine cd_loop (σ := Nat) (fun s => [(1, Value.pointer (some ⟨g1, 0, none⟩)), (18, .slice a ns.length ca), (19, .int .i64 ns.length), (20, .int .i64 (s : Int))]) (fun s => [Box g1 [.slice a ns.length ca, .slice b ls.length cb] 28]) (fun s => s ≤ ns.length ∧ ∀ j, j < s → nodeOkAt ns j = true) (fun s => ns.length - s) 0 ⟨Nat.zero_le _, fun j hj => absurd hj (Nat.not_lt_zero j)⟩ ⟨rfl, rfl, rfl, rfl, trivial⟩ (by repeat first | exact sLn _ | apply sLc | apply sLd) ?_
      rintro k ⟨hk, hq⟩
      refine cd_seq ?_
      refine cd_region ?_
      refine at_pure (pv_lss rfl rfl) rfl ?_
      refine at_nil ?_
      refine ex_go ?_
      refine cd_seq ?_
      refine cd_if rfl (fun hlt => ?_) (fun hlt => ?_)
      · skip
        refine cd_skip ?_
        refine ex_go ?_
        refine cd_seq ?_
        refine cd_block ?_
        refine cd_seq ?_
        have hkl : k < ns.length := by simpa using hlt
        obtain ⟨z, hz⟩ := get_of hkl
        have hy : 0 < k → ns[k - 1]? = some (at0 ns (k - 1)) := fun _ => at0_get (by omega)
        refine cd_region ?_
        refine at_pure (pv_move rfl) rfl ?_
        refine at_pure (pv_ix Try.underlying25 cz_70 rfl rfl (by first | omega | (simp only [decide_eq_true_eq, decide_eq_false_iff_not] at *; omega)) hn.real (k := k) (by omega)) rfl ?_
        refine at_pure (pv_elems ag_70 rfl (hn.gets hz) rfl) rfl ?_
        refine at_does (does_alloc ze_70 .agg (fun _ => (.cons .nil))) rfl (fun g2 => ?_)
        refine at_pure (pv_assign rfl) rfl ?_
        refine at_turns (by exact turns_store sz_70 rfl rfl .agg rfl rfl (.s .z) (.rep (.rep (.rep (.rep .done)))) (.s .z)) ?_
        refine at_nil ?_
        refine ex_go ?_
        refine cd_seq ?_
        refine cd_draw' 19 follows ?_
        refine dr_take 0 rfl (by kernel_rfl) (.refl _) (by exact pv_loads_box ag_70 rfl (.s .z) (.take (.take (.take (.take .done))))) rfl ?_
        refine dr_one 1 (by kernel_rfl) rfl ?_
        refine at_does (does_val cal66 rfl rfl rfl (fun w hs => fits_ref _ w)) rfl (fun _ => ?_)
        refine at_nil (dr_next (fun _ => (.refl _)) ?_)
        refine dr_take 2 rfl (by kernel_rfl) (.refl _) (pv_not rfl) rfl ?_
        refine dr_take 3 rfl (by kernel_rfl) (.refl _) (pv_move rfl) rfl ?_
        refine dr_split 28 rfl (fun hb4 => ?_) (fun hb4 => ?_)
        · skip
          refine dr_skip 4 rfl rfl rfl hb4 (by kernel_rfl) (.refl _) rfl ?_
          refine dr_skip 5 rfl rfl rfl hb4 (by kernel_rfl) (.refl _) rfl ?_
          refine dr_skip 6 rfl rfl rfl hb4 (by kernel_rfl) (.refl _) rfl ?_
          refine dr_skip_u 7 rfl rfl rfl (by kernel_rfl) (.refl _) rfl ?_
          refine dr_skip_u 8 rfl rfl rfl (by kernel_rfl) (.refl _) rfl ?_
          refine dr_skip_u 9 rfl rfl rfl (by kernel_rfl) (.refl _) rfl ?_
          refine dr_skip_u 10 rfl rfl rfl (by kernel_rfl) (.refl _) rfl ?_
          refine dr_skip_u 11 rfl rfl rfl (by kernel_rfl) (.refl _) rfl ?_
          refine dr_skip_u 12 rfl rfl rfl (by kernel_rfl) (.refl _) rfl ?_
          refine dr_skip_u 13 rfl rfl rfl (by kernel_rfl) (.refl _) rfl ?_
          refine dr_skip_u 14 rfl rfl rfl (by kernel_rfl) (.refl _) rfl ?_
          refine dr_skip_u 15 rfl rfl rfl (by kernel_rfl) (.refl _) rfl ?_
          refine dr_skip_u 16 rfl rfl rfl (by kernel_rfl) (.refl _) rfl ?_
          refine dr_skip 17 rfl rfl rfl hb4 (by kernel_rfl) (.refl _) rfl ?_
          refine dr_take 18 rfl (by kernel_rfl) (.refl _) (pv_pick_t rfl hb4 rfl) rfl ?_
          refine dr_done (by kernel_rfl) ?_
          refine ex_go ?_
          refine cd_then rfl rfl ?_
          refine cd_seq ?_
          refine cd_region ?_
          refine at_pure (pv_assign rfl) rfl ?_
          refine at_nil ?_
          refine ex_go ?_
          refine cd_ret ?_
          refine ex_in_ret (ex_then_ret (ex_then_ret (ex_in_ret (ex_then_ret ?_))))
          exact end_ret1 rfl rfl (fun w hs => ⟨by clear hs; refine congrArg (fun b => Ending.returned (.bool b)) ?_; first | exact (valid_all hb64 hb256 hnodes hlinks).symm | exact (valid_no0 (by simp only [decide_eq_true_eq] at *; omega)).symm | exact (valid_no1 hkl (by rw [nodeAt_eq hz]; simp only [Bool.not_eq_true', Bool.not_eq_false'] at *; simp only [Bool.and_true, Bool.true_and, Bool.and_false, Bool.false_and, Bool.or_true, Bool.true_or, Bool.or_false, Bool.false_or, Bool.not_true, Bool.not_false, *])).symm | exact (valid_no2 hkl (by rw [linkAt_eq hz]; simp only [Bool.not_eq_true', Bool.not_eq_false'] at *; simp only [Bool.and_true, Bool.true_and, Bool.and_false, Bool.false_and, Bool.or_true, Bool.true_or, Bool.or_false, Bool.false_or, Bool.not_true, Bool.not_false, *])).symm, hs.keep⟩)
        · skip
          refine dr_take_g 4 rfl rfl rfl hb4 (by kernel_rfl) (.refl _) (pv_move rfl) rfl ?_
          refine dr_take_g 5 rfl rfl rfl hb4 (by kernel_rfl) (.refl _) (pv_gtr rfl rfl) rfl ?_
          refine dr_take_g 6 rfl rfl rfl hb4 (by kernel_rfl) (.refl _) (pv_move rfl) rfl ?_
          refine dr_split 31 rfl (fun hb5 => ?_) (fun hb5 => ?_)
          · skip
            refine dr_take_g 7 rfl rfl rfl hb5 (by kernel_rfl) (.refl _) (pv_field0 fa_28_0 rfl (r := 0) rfl) rfl ?_
            refine dr_take_g 8 rfl rfl rfl hb5 (by kernel_rfl) (.refl _) (by exact pv_load ld_25 rfl (box_cell .z .z)) rfl ?_
            refine dr_take_g 9 rfl rfl rfl hb5 (by kernel_rfl) (.refl _) (pv_move rfl) rfl ?_
            refine dr_take_g 10 rfl rfl rfl hb5 (by kernel_rfl) (.refl _) (by first | exact pv_sub_n rfl rfl (by unfold In64; omega) | exact pv_sub rfl rfl) rfl ?_
            refine dr_take_g 11 rfl rfl rfl hb5 (by kernel_rfl) (.refl _) (pv_ix Try.underlying25 cz_70 rfl rfl (by first | omega | (simp only [decide_eq_true_eq, decide_eq_false_iff_not] at *; omega)) hn.real (k := (k - 1)) (by omega)) rfl ?_
            refine dr_take_g 12 rfl rfl rfl hb5 (by kernel_rfl) (.refl _) (pv_fieldAddr fa_70_0 rfl) rfl ?_
            refine dr_take_g 13 rfl rfl rfl hb5 (by kernel_rfl) (.refl _) (pv_elem ld_3 rfl (hn.get (hy (by first | omega | (simp only [decide_eq_true_eq] at *; omega))) .z)) rfl ?_
            refine dr_take_g 14 rfl rfl rfl hb5 (by kernel_rfl) (.refl _) (pv_field0 fa_70_0 rfl (r := 0) rfl) rfl ?_
            refine dr_take_g 15 rfl rfl rfl hb5 (by kernel_rfl) (.refl _) (by exact pv_load ld_3 rfl (box_cell (.s .z) .z)) rfl ?_
            refine dr_take_g 16 rfl rfl rfl hb5 (by kernel_rfl) (.refl _) (pv_geq rfl rfl) rfl ?_
            refine dr_take_g 17 rfl rfl rfl hb4 (by kernel_rfl) (.refl _) (pv_pick_t rfl hb5 rfl) rfl ?_
            refine dr_take 18 rfl (by kernel_rfl) (.refl _) (pv_pick_f rfl hb4 rfl) rfl ?_
            refine dr_done (by kernel_rfl) ?_
            refine ex_go ?_
            refine cd_if rfl (fun hb6 => ?_) (fun hb6 => ?_)
            · skip
              refine cd_seq ?_
              refine cd_region ?_
              refine at_pure (pv_assign rfl) rfl ?_
              refine at_nil ?_
              refine ex_go ?_
              refine cd_ret ?_
              refine ex_in_ret (ex_then_ret (ex_then_ret (ex_in_ret (ex_then_ret ?_))))
              exact end_ret1 rfl rfl (fun w hs => ⟨by clear hs; refine congrArg (fun b => Ending.returned (.bool b)) ?_; first | exact (valid_all hb64 hb256 hnodes hlinks).symm | exact (valid_no0 (by simp only [decide_eq_true_eq] at *; omega)).symm | exact (valid_no1 hkl (by rw [nodeAt_eq hz]; simp only [Bool.not_eq_true', Bool.not_eq_false'] at *; simp only [Bool.and_true, Bool.true_and, Bool.and_false, Bool.false_and, Bool.or_true, Bool.true_or, Bool.or_false, Bool.false_or, Bool.not_true, Bool.not_false, *])).symm | exact (valid_no2 hkl (by rw [linkAt_eq hz]; simp only [Bool.not_eq_true', Bool.not_eq_false'] at *; simp only [Bool.and_true, Bool.true_and, Bool.and_false, Bool.false_and, Bool.or_true, Bool.true_or, Bool.or_false, Bool.false_or, Bool.not_true, Bool.not_false, *])).symm, hs.keep⟩)
            · skip
              refine cd_skip ?_
              refine ex_in_normal (ex_go ?_)
              refine cd_region ?_
              refine at_pure (by first | exact pv_add_n rfl rfl (by unfold In64; omega) | exact pv_add rfl rfl) rfl ?_
              refine at_pure (pv_move rfl) rfl ?_
              refine at_nil ?_
              have hok : nodeOkAt ns k = true := (by rw [nodeAt_eq hz]; simp only [Bool.not_eq_true', Bool.not_eq_false'] at *; simp only [Bool.and_true, Bool.true_and, Bool.and_false, Bool.false_and, Bool.or_true, Bool.true_or, Bool.or_false, Bool.false_or, Bool.not_true, Bool.not_false, *])
              exact ex_meet (k + 1) ⟨⟨by omega, upto hq hok⟩, by omega⟩ ⟨rfl, rfl, rfl, rfl, trivial⟩ (by repeat first | exact sLn _ | apply sLc | apply sLd)
          · skip
            refine dr_skip 7 rfl rfl rfl hb5 (by kernel_rfl) (.refl _) rfl ?_
            refine dr_skip 8 rfl rfl rfl hb5 (by kernel_rfl) (.refl _) rfl ?_
            refine dr_skip 9 rfl rfl rfl hb5 (by kernel_rfl) (.refl _) rfl ?_
            refine dr_skip 10 rfl rfl rfl hb5 (by kernel_rfl) (.refl _) rfl ?_
            refine dr_skip 11 rfl rfl rfl hb5 (by kernel_rfl) (.refl _) rfl ?_
            refine dr_skip 12 rfl rfl rfl hb5 (by kernel_rfl) (.refl _) rfl ?_
            refine dr_skip 13 rfl rfl rfl hb5 (by kernel_rfl) (.refl _) rfl ?_
            refine dr_skip 14 rfl rfl rfl hb5 (by kernel_rfl) (.refl _) rfl ?_
            refine dr_skip 15 rfl rfl rfl hb5 (by kernel_rfl) (.refl _) rfl ?_
            refine dr_skip 16 rfl rfl rfl hb5 (by kernel_rfl) (.refl _) rfl ?_
            refine dr_take_g 17 rfl rfl rfl hb4 (by kernel_rfl) (.refl _) (pv_pick_f rfl hb5 rfl) rfl ?_
            refine dr_take 18 rfl (by kernel_rfl) (.refl _) (pv_pick_f rfl hb4 rfl) rfl ?_
            refine dr_done (by kernel_rfl) ?_
            refine ex_go ?_
            refine cd_else rfl rfl ?_
            refine cd_skip ?_
            refine ex_in_normal (ex_go ?_)
            refine cd_region ?_
            refine at_pure (by first | exact pv_add_n rfl rfl (by unfold In64; omega) | exact pv_add rfl rfl) rfl ?_
            refine at_pure (pv_move rfl) rfl ?_
            refine at_nil ?_
            have hok : nodeOkAt ns k = true := (by rw [nodeAt_eq hz]; simp only [Bool.not_eq_true', Bool.not_eq_false'] at *; simp only [Bool.and_true, Bool.true_and, Bool.and_false, Bool.false_and, Bool.or_true, Bool.true_or, Bool.or_false, Bool.false_or, Bool.not_true, Bool.not_false, *])
            exact ex_meet (k + 1) ⟨⟨by omega, upto hq hok⟩, by omega⟩ ⟨rfl, rfl, rfl, rfl, trivial⟩ (by repeat first | exact sLn _ | apply sLc | apply sLd)
      · skip
        refine cd_exit ?_
        refine ex_then_exit (ex_then_exit (ex_in (ex_go ?_)))
        refine cd_seq ?_
        refine cd_seq ?_
        have hnodes : ∀ j, j < ns.length → nodeOkAt ns j = true := fun j hj => hq j (by simp at hlt; omega)
        clear hq
        refine cd_region ?_
        refine at_pure (pv_field0 fa_28_1 rfl (r := 1) rfl) rfl ?_
        refine at_pure (by exact pv_load ld_26 rfl (box_cell .z (.s .z))) rfl ?_
        refine at_pure (pv_len Try.underlying26 rfl) rfl ?_
        refine at_pure (pv_move rfl) rfl ?_
        refine at_nil ?_
        refine ex_go ?_
        refine cd_block ?_
        refine cd_loop (σ := Nat) (fun s => [(1, Value.pointer (some ⟨g1, 0, none⟩)), (46, .slice b ls.length cb), (47, .int .i64 ls.length), (48, .int .i64 (s : Int))]) (fun s => [Box g1 [.slice a ns.length ca, .slice b ls.length cb] 28]) (fun s => s ≤ ls.length ∧ ∀ j, j < s → linkOkAt ns ls j = true) (fun s => ls.length - s) 0 ⟨Nat.zero_le _, fun j hj => absurd hj (Nat.not_lt_zero j)⟩ ⟨rfl, rfl, rfl, rfl, trivial⟩ (by repeat first | exact sLn _ | apply sLc | apply sLd) ?_
        rintro k ⟨hk, hq⟩
        refine cd_seq ?_
        refine cd_region ?_
        refine at_pure (pv_lss rfl rfl) rfl ?_
        refine at_nil ?_
        refine ex_go ?_
        refine cd_seq ?_
        refine cd_if rfl (fun hlt2 => ?_) (fun hlt2 => ?_)
        · skip
          refine cd_skip ?_
          refine ex_go ?_
          refine cd_seq ?_
          refine cd_block ?_
          refine cd_seq ?_
          have hkl : k < ls.length := by simpa using hlt2
          obtain ⟨z, hz⟩ := get_of hkl
          have hle := hl.le
          have hy : 0 < k → ls[k - 1]? = some (at0 ls (k - 1)) := fun _ => at0_get (by omega)
          refine cd_region ?_
          refine at_pure (pv_move rfl) rfl ?_
          refine at_pure (pv_ix Try.underlying26 cz_61 rfl rfl (by first | omega | (simp only [decide_eq_true_eq, decide_eq_false_iff_not] at *; omega)) hl.real (k := k) (by omega)) rfl ?_
          refine at_pure (pv_elems ag_61 rfl (hl.gets hz) rfl) rfl ?_
          refine at_does (does_alloc ze_61 .agg (fun _ => (.cons .nil))) rfl (fun g3 => ?_)
          refine at_pure (pv_assign rfl) rfl ?_
          refine at_turns (by exact turns_store sz_61 rfl rfl .agg rfl rfl (.s .z) (.rep (.rep (.rep (.rep .done)))) (.s .z)) ?_
          refine at_nil ?_
          refine ex_go ?_
          refine cd_seq ?_
          refine cd_draw' 28 follows ?_
          refine dr_take 0 rfl (by kernel_rfl) (.refl _) (by exact pv_loads_box ag_28 rfl .z (.take (.take .done))) rfl ?_
          refine dr_take 1 rfl (by kernel_rfl) (.refl _) (by exact pv_loads_box ag_61 rfl (.s .z) (.take (.take (.take (.take .done))))) rfl ?_
          refine dr_one 2 (by kernel_rfl) rfl ?_
          refine at_does (does_val cal63 rfl rfl rfl (fun w hs => ports_ref _ _ _ _ _ _ _ w (hn.at' hs) (hl.at' hs))) rfl (fun _ => ?_)
          refine at_nil (dr_next (fun _ => (.refl _)) ?_)
          refine dr_take 3 rfl (by kernel_rfl) (.refl _) (pv_not rfl) rfl ?_
          refine dr_take 4 rfl (by kernel_rfl) (.refl _) (pv_move rfl) rfl ?_
          refine dr_split 57 rfl (fun hb8 => ?_) (fun hb8 => ?_)
          · skip
            refine dr_skip 5 rfl rfl rfl hb8 (by kernel_rfl) (.refl _) rfl ?_
            refine dr_skip 6 rfl rfl rfl hb8 (by kernel_rfl) (.refl _) rfl ?_
            refine dr_skip 7 rfl rfl rfl hb8 (by kernel_rfl) (.refl _) rfl ?_
            refine dr_skip_u 8 rfl rfl rfl (by kernel_rfl) (.refl _) rfl ?_
            refine dr_skip_u 9 rfl rfl rfl (by kernel_rfl) (.refl _) rfl ?_
            refine dr_skip_u 10 rfl rfl rfl (by kernel_rfl) (.refl _) rfl ?_
            refine dr_skip_u 11 rfl rfl rfl (by kernel_rfl) (.refl _) rfl ?_
            refine dr_skip_u 12 rfl rfl rfl (by kernel_rfl) (.refl _) rfl ?_
            refine dr_skip_u 13 rfl rfl rfl (by kernel_rfl) (.refl _) rfl ?_
            refine dr_skip_u 14 rfl rfl rfl (by kernel_rfl) (.refl _) rfl ?_
            refine dr_skip_u 15 rfl rfl rfl (by kernel_rfl) (.refl _) rfl ?_
            refine dr_skip_u 16 rfl rfl rfl (by kernel_rfl) (.refl _) rfl ?_
            refine dr_skip 17 rfl rfl rfl hb8 (by kernel_rfl) (.refl _) rfl ?_
            refine dr_take 18 rfl (by kernel_rfl) (.refl _) (pv_pick_t rfl hb8 rfl) rfl ?_
            refine dr_take 19 rfl (by kernel_rfl) (.refl _) (pv_move rfl) rfl ?_
            refine dr_skip 20 rfl rfl rfl rfl (by kernel_rfl) (.refl _) rfl ?_
            refine dr_skip 21 rfl rfl rfl rfl (by kernel_rfl) (.refl _) rfl ?_
            refine dr_skip 22 rfl rfl rfl rfl (by kernel_rfl) (.refl _) rfl ?_
            refine dr_skip 23 rfl rfl rfl rfl (by kernel_rfl) (.refl _) rfl ?_
            refine dr_skip 24 rfl rfl rfl rfl (by kernel_rfl) (.refl _) rfl ?_
            refine dr_skip 25 rfl rfl rfl rfl (by kernel_rfl) (.refl _) rfl ?_
            refine dr_skip 26 rfl rfl rfl rfl (by kernel_rfl) (.refl _) rfl ?_
            refine dr_take 27 rfl (by kernel_rfl) (.refl _) (pv_pick_t rfl rfl rfl) rfl ?_
            refine dr_done (by kernel_rfl) ?_
            refine ex_go ?_
            refine cd_then rfl rfl ?_
            refine cd_seq ?_
            refine cd_region ?_
            refine at_pure (pv_assign rfl) rfl ?_
            refine at_nil ?_
            refine ex_go ?_
            refine cd_ret ?_
            refine ex_in_ret (ex_then_ret (ex_then_ret (ex_in_ret (ex_then_ret ?_))))
            exact end_ret1 rfl rfl (fun w hs => ⟨by clear hs; refine congrArg (fun b => Ending.returned (.bool b)) ?_; first | exact (valid_all hb64 hb256 hnodes hlinks).symm | exact (valid_no0 (by simp only [decide_eq_true_eq] at *; omega)).symm | exact (valid_no1 hkl (by rw [nodeAt_eq hz]; simp only [Bool.not_eq_true', Bool.not_eq_false'] at *; simp only [Bool.and_true, Bool.true_and, Bool.and_false, Bool.false_and, Bool.or_true, Bool.true_or, Bool.or_false, Bool.false_or, Bool.not_true, Bool.not_false, *])).symm | exact (valid_no2 hkl (by rw [linkAt_eq hz]; simp only [Bool.not_eq_true', Bool.not_eq_false'] at *; simp only [Bool.and_true, Bool.true_and, Bool.and_false, Bool.false_and, Bool.or_true, Bool.true_or, Bool.or_false, Bool.false_or, Bool.not_true, Bool.not_false, *])).symm, hs.keep⟩)
          · skip
            refine dr_take_g 5 rfl rfl rfl hb8 (by kernel_rfl) (.refl _) (pv_move rfl) rfl ?_
            refine dr_take_g 6 rfl rfl rfl hb8 (by kernel_rfl) (.refl _) (pv_gtr rfl rfl) rfl ?_
            refine dr_take_g 7 rfl rfl rfl hb8 (by kernel_rfl) (.refl _) (pv_move rfl) rfl ?_
            refine dr_split 60 rfl (fun hb9 => ?_) (fun hb9 => ?_)
            · skip
              refine dr_take_g 8 rfl rfl rfl hb9 (by kernel_rfl) (.refl _) (pv_field0 fa_28_1 rfl (r := 1) rfl) rfl ?_
              refine dr_take_g 9 rfl rfl rfl hb9 (by kernel_rfl) (.refl _) (by exact pv_load ld_26 rfl (box_cell .z (.s .z))) rfl ?_
              refine dr_take_g 10 rfl rfl rfl hb9 (by kernel_rfl) (.refl _) (pv_move rfl) rfl ?_
              refine dr_take_g 11 rfl rfl rfl hb9 (by kernel_rfl) (.refl _) (by first | exact pv_sub_n rfl rfl (by unfold In64; omega) | exact pv_sub rfl rfl) rfl ?_
              refine dr_take_g 12 rfl rfl rfl hb9 (by kernel_rfl) (.refl _) (pv_ix Try.underlying26 cz_61 rfl rfl (by first | omega | (simp only [decide_eq_true_eq, decide_eq_false_iff_not] at *; omega)) hl.real (k := (k - 1)) (by omega)) rfl ?_
              refine dr_take_g 13 rfl rfl rfl hb9 (by kernel_rfl) (.refl _) (pv_elems ag_61 rfl (hl.gets (hy (by first | omega | (simp only [decide_eq_true_eq] at *; omega)))) rfl) rfl ?_
              refine dr_take_g 14 rfl rfl rfl hb9 (by kernel_rfl) (.refl _) (by exact pv_loads_box ag_61 rfl (.s .z) (.take (.take (.take (.take .done))))) rfl ?_
              refine dr_one 15 (by kernel_rfl) rfl ?_
              refine at_does_g rfl rfl hb9 (does_val cal68 rfl rfl rfl (fun w hs => less_ref _ _ w)) rfl (fun _ => ?_)
              refine at_nil (dr_next (fun _ => (.refl _)) ?_)
              refine dr_take_g 16 rfl rfl rfl hb9 (by kernel_rfl) (.refl _) (pv_not rfl) rfl ?_
              refine dr_take_g 17 rfl rfl rfl hb8 (by kernel_rfl) (.refl _) (pv_pick_t rfl hb9 rfl) rfl ?_
              refine dr_take 18 rfl (by kernel_rfl) (.refl _) (pv_pick_f rfl hb8 rfl) rfl ?_
              refine dr_take 19 rfl (by kernel_rfl) (.refl _) (pv_move rfl) rfl ?_
              refine dr_split 72 rfl (fun hb10 => ?_) (fun hb10 => ?_)
              · skip
                refine dr_skip 20 rfl rfl rfl hb10 (by kernel_rfl) (.refl _) rfl ?_
                refine dr_skip 21 rfl rfl rfl hb10 (by kernel_rfl) (.refl _) rfl ?_
                refine dr_skip 22 rfl rfl rfl hb10 (by kernel_rfl) (.refl _) rfl ?_
                refine dr_skip 23 rfl rfl rfl hb10 (by kernel_rfl) (.refl _) rfl ?_
                refine dr_skip 24 rfl rfl rfl hb10 (by kernel_rfl) (.refl _) rfl ?_
                refine dr_skip 25 rfl rfl rfl hb10 (by kernel_rfl) (.refl _) rfl ?_
                refine dr_skip 26 rfl rfl rfl hb10 (by kernel_rfl) (.refl _) rfl ?_
                refine dr_take 27 rfl (by kernel_rfl) (.refl _) (pv_pick_t rfl hb10 rfl) rfl ?_
                refine dr_done (by kernel_rfl) ?_
                refine ex_go ?_
                refine cd_then rfl rfl ?_
                refine cd_seq ?_
                refine cd_region ?_
                refine at_pure (pv_assign rfl) rfl ?_
                refine at_nil ?_
                refine ex_go ?_
                refine cd_ret ?_
                refine ex_in_ret (ex_then_ret (ex_then_ret (ex_in_ret (ex_then_ret ?_))))
                exact end_ret1 rfl rfl (fun w hs => ⟨by clear hs; refine congrArg (fun b => Ending.returned (.bool b)) ?_; first | exact (valid_all hb64 hb256 hnodes hlinks).symm | exact (valid_no0 (by simp only [decide_eq_true_eq] at *; omega)).symm | exact (valid_no1 hkl (by rw [nodeAt_eq hz]; simp only [Bool.not_eq_true', Bool.not_eq_false'] at *; simp only [Bool.and_true, Bool.true_and, Bool.and_false, Bool.false_and, Bool.or_true, Bool.true_or, Bool.or_false, Bool.false_or, Bool.not_true, Bool.not_false, *])).symm | exact (valid_no2 hkl (by rw [linkAt_eq hz]; simp only [Bool.not_eq_true', Bool.not_eq_false'] at *; simp only [Bool.and_true, Bool.true_and, Bool.and_false, Bool.false_and, Bool.or_true, Bool.true_or, Bool.or_false, Bool.false_or, Bool.not_true, Bool.not_false, *])).symm, hs.keep⟩)
              · skip
                refine dr_take_g 20 rfl rfl rfl hb10 (by kernel_rfl) (.refl _) (by exact pv_loads_box ag_28 rfl .z (.take (.take .done))) rfl ?_
                refine dr_take_g 21 rfl rfl rfl hb10 (by kernel_rfl) (.refl _) (by exact pv_loads_box ag_61 rfl (.s .z) (.take (.take (.take (.take .done))))) rfl ?_
                refine dr_take_g 22 rfl rfl rfl hb10 (by kernel_rfl) (.refl _) (pv_field0 fa_28_1 rfl (r := 1) rfl) rfl ?_
                refine dr_take_g 23 rfl rfl rfl hb10 (by kernel_rfl) (.refl _) (by exact pv_load ld_26 rfl (box_cell .z (.s .z))) rfl ?_
                refine dr_take_g 24 rfl rfl rfl hb10 (by kernel_rfl) (.refl _) (pv_move rfl) rfl ?_
                refine dr_take_g 25 rfl rfl rfl hb10 (by kernel_rfl) (.refl _) (pv_cut_to Try.underlying26 cz_61 rfl rfl (by omega) (k := (ls.take k).length) (by rw [List.length_take]; omega)) rfl ?_
                refine dr_one 26 (by kernel_rfl) rfl ?_
                refine at_does_g rfl rfl hb10 (does_val cal67 rfl rfl rfl (fun w hs => crowded_ref _ _ _ _ _ _ _ b cb (ls.take k) w (hn.at' hs) (hl.at' hs) ((hl.take k).at' hs))) rfl (fun _ => ?_)
                refine at_nil (dr_next (fun _ => (.refl _)) ?_)
                refine dr_take 27 rfl (by kernel_rfl) (.refl _) (pv_pick_f rfl hb10 rfl) rfl ?_
                refine dr_done (by kernel_rfl) ?_
                refine ex_go ?_
                refine cd_if rfl (fun hb11 => ?_) (fun hb11 => ?_)
                · skip
                  refine cd_seq ?_
                  refine cd_region ?_
                  refine at_pure (pv_assign rfl) rfl ?_
                  refine at_nil ?_
                  refine ex_go ?_
                  refine cd_ret ?_
                  refine ex_in_ret (ex_then_ret (ex_then_ret (ex_in_ret (ex_then_ret ?_))))
                  exact end_ret1 rfl rfl (fun w hs => ⟨by clear hs; refine congrArg (fun b => Ending.returned (.bool b)) ?_; first | exact (valid_all hb64 hb256 hnodes hlinks).symm | exact (valid_no0 (by simp only [decide_eq_true_eq] at *; omega)).symm | exact (valid_no1 hkl (by rw [nodeAt_eq hz]; simp only [Bool.not_eq_true', Bool.not_eq_false'] at *; simp only [Bool.and_true, Bool.true_and, Bool.and_false, Bool.false_and, Bool.or_true, Bool.true_or, Bool.or_false, Bool.false_or, Bool.not_true, Bool.not_false, *])).symm | exact (valid_no2 hkl (by rw [linkAt_eq hz]; simp only [Bool.not_eq_true', Bool.not_eq_false'] at *; simp only [Bool.and_true, Bool.true_and, Bool.and_false, Bool.false_and, Bool.or_true, Bool.true_or, Bool.or_false, Bool.false_or, Bool.not_true, Bool.not_false, *])).symm, hs.keep⟩)
                · skip
                  refine cd_skip ?_
                  refine ex_in_normal (ex_go ?_)
                  refine cd_region ?_
                  refine at_pure (by first | exact pv_add_n rfl rfl (by unfold In64; omega) | exact pv_add rfl rfl) rfl ?_
                  refine at_pure (pv_move rfl) rfl ?_
                  refine at_nil ?_
                  have hok : linkOkAt ns ls k = true := (by rw [linkAt_eq hz]; simp only [Bool.not_eq_true', Bool.not_eq_false'] at *; simp only [Bool.and_true, Bool.true_and, Bool.and_false, Bool.false_and, Bool.or_true, Bool.true_or, Bool.or_false, Bool.false_or, Bool.not_true, Bool.not_false, *])
                  exact ex_meet (k + 1) ⟨⟨by omega, upto hq hok⟩, by omega⟩ ⟨rfl, rfl, rfl, rfl, trivial⟩ (by repeat first | exact sLn _ | apply sLc | apply sLd)
            · skip
              refine dr_skip 8 rfl rfl rfl hb9 (by kernel_rfl) (.refl _) rfl ?_
              refine dr_skip 9 rfl rfl rfl hb9 (by kernel_rfl) (.refl _) rfl ?_
              refine dr_skip 10 rfl rfl rfl hb9 (by kernel_rfl) (.refl _) rfl ?_
              refine dr_skip 11 rfl rfl rfl hb9 (by kernel_rfl) (.refl _) rfl ?_
              refine dr_skip 12 rfl rfl rfl hb9 (by kernel_rfl) (.refl _) rfl ?_
              refine dr_skip 13 rfl rfl rfl hb9 (by kernel_rfl) (.refl _) rfl ?_
              refine dr_skip 14 rfl rfl rfl hb9 (by kernel_rfl) (.refl _) rfl ?_
              refine dr_skip 15 rfl rfl rfl hb9 (by kernel_rfl) (.refl _) rfl ?_
              refine dr_skip 16 rfl rfl rfl hb9 (by kernel_rfl) (.refl _) rfl ?_
              refine dr_take_g 17 rfl rfl rfl hb8 (by kernel_rfl) (.refl _) (pv_pick_f rfl hb9 rfl) rfl ?_
              refine dr_take 18 rfl (by kernel_rfl) (.refl _) (pv_pick_f rfl hb8 rfl) rfl ?_
              refine dr_take 19 rfl (by kernel_rfl) (.refl _) (pv_move rfl) rfl ?_
              refine dr_take_g 20 rfl rfl rfl rfl (by kernel_rfl) (.refl _) (by exact pv_loads_box ag_28 rfl .z (.take (.take .done))) rfl ?_
              refine dr_take_g 21 rfl rfl rfl rfl (by kernel_rfl) (.refl _) (by exact pv_loads_box ag_61 rfl (.s .z) (.take (.take (.take (.take .done))))) rfl ?_
              refine dr_take_g 22 rfl rfl rfl rfl (by kernel_rfl) (.refl _) (pv_field0 fa_28_1 rfl (r := 1) rfl) rfl ?_
              refine dr_take_g 23 rfl rfl rfl rfl (by kernel_rfl) (.refl _) (by exact pv_load ld_26 rfl (box_cell .z (.s .z))) rfl ?_
              refine dr_take_g 24 rfl rfl rfl rfl (by kernel_rfl) (.refl _) (pv_move rfl) rfl ?_
              refine dr_take_g 25 rfl rfl rfl rfl (by kernel_rfl) (.refl _) (pv_cut_to Try.underlying26 cz_61 rfl rfl (by omega) (k := (ls.take k).length) (by rw [List.length_take]; omega)) rfl ?_
              refine dr_one 26 (by kernel_rfl) rfl ?_
              refine at_does_g rfl rfl rfl (does_val cal67 rfl rfl rfl (fun w hs => crowded_ref _ _ _ _ _ _ _ b cb (ls.take k) w (hn.at' hs) (hl.at' hs) ((hl.take k).at' hs))) rfl (fun _ => ?_)
              refine at_nil (dr_next (fun _ => (.refl _)) ?_)
              refine dr_take 27 rfl (by kernel_rfl) (.refl _) (pv_pick_f rfl rfl rfl) rfl ?_
              refine dr_done (by kernel_rfl) ?_
              refine ex_go ?_
              refine cd_if rfl (fun hb12 => ?_) (fun hb12 => ?_)
              · skip
                refine cd_seq ?_
                refine cd_region ?_
                refine at_pure (pv_assign rfl) rfl ?_
                refine at_nil ?_
                refine ex_go ?_
                refine cd_ret ?_
                refine ex_in_ret (ex_then_ret (ex_then_ret (ex_in_ret (ex_then_ret ?_))))
                exact end_ret1 rfl rfl (fun w hs => ⟨by clear hs; refine congrArg (fun b => Ending.returned (.bool b)) ?_; first | exact (valid_all hb64 hb256 hnodes hlinks).symm | exact (valid_no0 (by simp only [decide_eq_true_eq] at *; omega)).symm | exact (valid_no1 hkl (by rw [nodeAt_eq hz]; simp only [Bool.not_eq_true', Bool.not_eq_false'] at *; simp only [Bool.and_true, Bool.true_and, Bool.and_false, Bool.false_and, Bool.or_true, Bool.true_or, Bool.or_false, Bool.false_or, Bool.not_true, Bool.not_false, *])).symm | exact (valid_no2 hkl (by rw [linkAt_eq hz]; simp only [Bool.not_eq_true', Bool.not_eq_false'] at *; simp only [Bool.and_true, Bool.true_and, Bool.and_false, Bool.false_and, Bool.or_true, Bool.true_or, Bool.or_false, Bool.false_or, Bool.not_true, Bool.not_false, *])).symm, hs.keep⟩)
              · skip
                refine cd_skip ?_
                refine ex_in_normal (ex_go ?_)
                refine cd_region ?_
                refine at_pure (by first | exact pv_add_n rfl rfl (by unfold In64; omega) | exact pv_add rfl rfl) rfl ?_
                refine at_pure (pv_move rfl) rfl ?_
                refine at_nil ?_
                have hok : linkOkAt ns ls k = true := (by rw [linkAt_eq hz]; simp only [Bool.not_eq_true', Bool.not_eq_false'] at *; simp only [Bool.and_true, Bool.true_and, Bool.and_false, Bool.false_and, Bool.or_true, Bool.true_or, Bool.or_false, Bool.false_or, Bool.not_true, Bool.not_false, *])
                exact ex_meet (k + 1) ⟨⟨by omega, upto hq hok⟩, by omega⟩ ⟨rfl, rfl, rfl, rfl, trivial⟩ (by repeat first | exact sLn _ | apply sLc | apply sLd)
        · skip
          refine cd_exit ?_
          refine ex_then_exit (ex_then_exit (ex_in (ex_go ?_)))
          refine cd_seq ?_
          have hlinks : ∀ j, j < ls.length → linkOkAt ns ls j = true := fun j hj => hq j (by simp at hlt2; omega)
          refine cd_draw' 7 follows ?_
          refine dr_take 0 rfl (by kernel_rfl) (.refl _) (by exact pv_loads_box ag_28 rfl .z (.take (.take .done))) rfl ?_
          refine dr_take 3 rfl (by kernel_rfl) (.refl _) (pv_field0 fa_28_0 rfl (r := 0) rfl) rfl ?_
          refine dr_take 4 rfl (by kernel_rfl) (.refl _) (by exact pv_load ld_25 rfl (box_cell .z .z)) rfl ?_
          refine dr_take 5 rfl (by kernel_rfl) (.refl _) (pv_len Try.underlying25 rfl) rfl ?_
          refine dr_one 1 (by kernel_rfl) rfl ?_
          refine at_does (does_gives (X := Option Addr × Nat) (val := fun z => .slice z.1 (orderS ns ls).length z.2) (Δ := fun z => [RowP enc1 1 3 z.1 z.2 (orderS ns ls)]) cal69 rfl rfl rfl (fun w hs => by have h9 := order_ref a b ca cb ns ls w (hn.at' hs) (hl.at' hs) hb64 (pos_of hnodes); exact h9) (fun _ => (.cons .nil))) rfl (fun z9 => ?_)
          refine at_nil (dr_next (fun _ => (by repeat first | exact sLn _ | apply sLc | apply sLd)) ?_)
          refine dr_take 2 rfl (by kernel_rfl) (by repeat first | exact sLn _ | apply sLc | apply sLd) (pv_len Try.underlying22 rfl) rfl ?_
          refine dr_take 6 rfl (by kernel_rfl) (by repeat first | exact sLn _ | apply sLc | apply sLd) (pv_eql rfl rfl) rfl ?_
          refine dr_one 7 (by kernel_rfl) rfl ?_
          refine at_pure (pv_assign rfl) rfl ?_
          refine at_nil (dr_next (fun h => by cases h) ?_)
          refine dr_done (by kernel_rfl) ?_
          refine ex_go ?_
          refine cd_ret ?_
          exact end_ret1 rfl rfl (fun w hs => ⟨by clear hs; refine congrArg (fun b => Ending.returned (.bool b)) ?_; first | exact (valid_all hb64 hb256 hnodes hlinks).symm | exact (valid_no0 (by simp only [decide_eq_true_eq] at *; omega)).symm | exact (valid_no1 hkl (by rw [nodeAt_eq hz]; simp only [Bool.not_eq_true', Bool.not_eq_false'] at *; simp only [Bool.and_true, Bool.true_and, Bool.and_false, Bool.false_and, Bool.or_true, Bool.true_or, Bool.or_false, Bool.false_or, Bool.not_true, Bool.not_false, *])).symm | exact (valid_no2 hkl (by rw [linkAt_eq hz]; simp only [Bool.not_eq_true', Bool.not_eq_false'] at *; simp only [Bool.and_true, Bool.true_and, Bool.and_false, Bool.false_and, Bool.or_true, Bool.true_or, Bool.or_false, Bool.false_or, Bool.not_true, Bool.not_false, *])).symm, hs.keep⟩)

end Go.Proofs.Ytkejdfnpbkdllaa
