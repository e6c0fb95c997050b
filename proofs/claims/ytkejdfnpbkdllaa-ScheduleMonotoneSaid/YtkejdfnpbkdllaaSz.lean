/- What a law's arguments are in memory: rows of numbers, as the walks want them. No program in sight. -/
import Derived.SizedLaws
import Derived.ChangeSlices
import Derived.Test.YtkejdfnpbkdllaaG22
set_option linter.unusedVariables false
set_option linter.unusedSimpArgs false
namespace Go.Proofs.Ytkejdfnpbkdllaa
open Go Go.RowKit Go.Proofs.YtkejdfnpbkdllaaV
open Go.ChangeShapes Go.WideShapes

/-- A row's slice of whole numbers is no longer than its weight allows. -/
theorem sizedInts {H : Type} {enc : TypeId × Value → H} {P : Program} {W : World} {base : Nat} {spare : Nat → Bool} {held : Bool} {t e : TypeId} {k : IntKind} {a : Option Addr} {len cap : Nat} {d : DataW H} {ps : List MemPlace} {ts : List TypeId} {ds : List (DataW H)} {j : Nat}
    (hsz : (DataW.weightsEach P ts ds).all (· ≤ reachBytes) = true) (ht : ts[j]? = some t) (hd : ds[j]? = some d) (hu : P.underlying t = some (.slice e)) (he : P.underlying e = some (.int k)) (hc : P.cellsOf e = 1) {B : Nat} (hB : P.bytesOf e = B)
    (h : DataW.Trod enc P W base spare held t (.slice a len cap) d ps) : len * B ≤ 140737488351232 := by
  obtain ⟨fuel, hf⟩ := h
  rcases open_ints hu he hc hf with ⟨hcs, _⟩ | ⟨x, l, c, zs, hcs, _, hl, _, hz, hx, _, _⟩
  · simp [Value.cells] at hcs
    obtain ⟨rfl, rfl, rfl⟩ := hcs
    simp
  · simp [Value.cells] at hcs
    obtain ⟨rfl, rfl, rfl⟩ := hcs
    obtain ⟨hx, _⟩ := Prod.mk.inj hx
    subst hx
    have z := sized_slice hsz ht hd hu
    rw [hB] at z
    have hl2 : len ≤ zs.length := by
      rw [hz]
      split
      · exact hl
      · exact Nat.le_refl _
    have h1 : (lits (H := H) k (zs.take len)).length + (lits (H := H) k (zs.drop len)).length = zs.length := by
      simp [lits]
      omega
    rw [h1] at z
    exact Nat.le_trans (Nat.mul_le_mul_right _ hl2) z

def IsRow (k : IntKind) (w : World) (a : Option Addr) (len cap : Nat) (zs : List Int) : Prop :=
  (a = none ∧ len = 0 ∧ cap = 0 ∧ zs = []) ∨
  ∃ x, a = some x ∧ len ≤ cap ∧ cap ≤ maxLen ∧ zs.length = cap ∧ (∀ i, i < zs.length → w.cell? (x.add i) = some (.int k (zs.getD i 0))) ∧ ∀ n ∈ zs, (Lit.int k n).wf = true
theorem ints_of {w : World} {a : Option Addr} {len cap : Nat} {zs : List Int} (h : IsRow .i64 w a len cap zs) : Ints [] w a len := by
  rcases h with ⟨_, h, _, _⟩ | ⟨A, h1, h2, h3, h4, h5, h6⟩
  · exact .inl h
  · rcases Nat.eq_zero_or_pos len with h0 | h0
    · exact .inl h0
    · have h7 := h5 0 (by omega)
      have h8 := World.block_lt_of_cell? _ _ h7
      rw [add_block] at h8
      exact .inr ⟨A, h1, h8, by simp, fun i hi => ⟨_, h5 i (by omega)⟩⟩
theorem wf_le {n : Int} (h : (Lit.int .i64 n).wf = true) : -9223372036854775808 ≤ n ∧ n ≤ 9223372036854775807 := by
  simp [Lit.wf, IntKind.min, IntKind.max, IntKind.signed, IntKind.bits] at h
  omega
/-- The row, as a slice that shows numbers. -/
theorem sl_of {w : World} {a : Option Addr} {len cap : Nat} {zs : List Int} (h : IsRow .i64 w a len cap zs) : ∃ xs : List Int, xs.length = len ∧ Sl [] enc1 1 w a cap xs := by
  rcases h with ⟨rfl, rfl, rfl, rfl⟩ | ⟨A, rfl, h2, h3, h4, h5, h6⟩
  · exact ⟨[], rfl, .none0 w⟩
  · refine ⟨zs.take len, by simp; omega, .inr rfl, by simp; omega, by simp, by have : maxLen ≤ 9223372036854775807 := by simp [maxLen]
                                                                               simp; omega, by simp, fun h0 => ?_, fun i x hi j v hj => ?_⟩
    · have h7 := h5 0 (by simp at h0; omega)
      have h8 := World.block_lt_of_cell? _ _ h7
      rw [add_block] at h8
      exact h8
    · rw [List.getElem?_take] at hi
      split at hi
      · have hil := (List.getElem?_eq_some_iff.1 hi).1
        have := h5 i hil
        rw [List.getD_eq_getElem?_getD, hi] at this
        simp only [enc1] at hj
        cases j with
        | zero =>
          simp only [List.getElem?_cons_zero, Option.some.injEq] at hj
          subst hj
          show w.cell? (A.add (i * 1 + 0)) = _
          simpa using this
        | succ j => simp at hj
      · cases hi
end Go.Proofs.Ytkejdfnpbkdllaa
