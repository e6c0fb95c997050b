/- What a law's arguments are in memory: rows of four numbers. No program in sight. -/
import Derived.Test.YtkejdfnpbkdllaaSz
import Derived.Lib.SmallJoins
import Derived.Deep.Fields
set_option linter.unusedVariables false
set_option linter.unusedSimpArgs false
namespace Go.Proofs.Ytkejdfnpbkdllaa
open Go Go.RowKit Go.Proofs.YtkejdfnpbkdllaaV
open Go.ChangeShapes Go.WideShapes Go.Joins Go.Deep

theorem list_choice {α : Type} {Q : Nat → α → Prop} : ∀ (n : Nat), (∀ i, i < n → ∃ z, Q i z) → ∃ xs : List α, xs.length = n ∧ ∀ i z, xs[i]? = some z → Q i z
  | 0, _ => ⟨[], rfl, by simp⟩
  | n + 1, h => by
    obtain ⟨xs, h1, h2⟩ := list_choice n (fun i hi => h i (by omega))
    obtain ⟨z, hz⟩ := h n (by omega)
    refine ⟨xs ++ [z], by simp [h1], fun i y hy => ?_⟩
    rw [List.getElem?_append] at hy
    split at hy
    · exact h2 i y hy
    · have : i = n := by
        have := (List.getElem?_eq_some_iff.1 hy).1
        simp at this
        omega
      subst this
      rw [← h1] at hy
      simp at hy
      subst hy
      exact hz

variable {H : Type} {enc : TypeId × Value → H} {P : Program} {w : World} {base : Nat} {spare : Nat → Bool} {held : Bool}
theorem rowQ4 {t e : TypeId} {f0 f1 f2 f3 : Field} {fuel : Nat} {cs : List Value} {x : DataW H × List MemPlace} (ht : P.underlying t = some (.slice e)) (he : P.underlying e = some (.struct #[f0, f1, f2, f3])) (hone : oneCellFields P #[f0, f1, f2, f3] = true) (hC : P.cellsOf e = 4)
    (h0 : P.underlying f0.type = some (.int .i64)) (h1 : P.underlying f1.type = some (.int .i64)) (h2 : P.underlying f2.type = some (.int .i64)) (h3 : P.underlying f3.type = some (.int .i64))
    (h : DataW.trod enc P w base spare held fuel t cs = some x) : ∃ (a : Option Addr) (cap : Nat) (xs : List Q4), cs = [.slice a xs.length cap] ∧ Sl [] enc4 4 w a cap xs := by
  rcases DataW.trod_slice ht h with ⟨rfl, _⟩ | ⟨a, len, cap, elems, rest, n, _, rfl, rfl, hb, hl, hm, hlen, hel, hsp, hns⟩
  · exact ⟨none, 0, [], rfl, .none0 w⟩
  · have each : ∀ i, i < len → ∃ z : Q4, ∀ j v, (enc4 z)[j]? = some v → w.cell? (a.add (i * 4 + j)) = some v := by
      intro i hi
      have hk := hel i hi
      obtain ⟨y, hy⟩ : ∃ y, elems[i]? = some y := ⟨_, List.getElem?_eq_getElem (by omega)⟩
      rw [hy, hC, Option.bind_eq_some_iff] at hk
      obtain ⟨cs', hcs, hy'⟩ := hk
      obtain ⟨_, hl4, hcell⟩ := World.cells?_some hcs
      obtain ⟨xs, n', _, _, _, hxl, hg⟩ := DataW.trod_struct he hy'
      match cs', hl4 with
      | [c0, c1, c2, c3], _ =>
        match xs, hxl with
        | [y0, y1, y2, y3], _ =>
          obtain ⟨o0, k0⟩ := hone_of hone 0 f0 rfl
          obtain ⟨o1, k1⟩ := hone_of hone 1 f1 rfl
          obtain ⟨o2, k2⟩ := hone_of hone 2 f2 rfl
          obtain ⟨o3, k3⟩ := hone_of hone 3 f3 rfl
          have g0 : DataW.trod enc P w base spare held n' f0.type [c0] = some y0 := by simpa [o0, k0] using hg 0 f0 rfl
          have g1 : DataW.trod enc P w base spare held n' f1.type [c1] = some y1 := by simpa [o1, k1] using hg 1 f1 rfl
          have g2 : DataW.trod enc P w base spare held n' f2.type [c2] = some y2 := by simpa [o2, k2] using hg 2 f2 rfl
          have g3 : DataW.trod enc P w base spare held n' f3.type [c3] = some y3 := by simpa [o3, k3] using hg 3 f3 rfl
          obtain ⟨z0, e0, _, _⟩ := DataW.trod_int h0 g0
          obtain ⟨z1, e1, _, _⟩ := DataW.trod_int h1 g1
          obtain ⟨z2, e2, _, _⟩ := DataW.trod_int h2 g2
          obtain ⟨z3, e3, _, _⟩ := DataW.trod_int h3 g3
          simp only [List.cons.injEq, and_true] at e0 e1 e2 e3
          subst e0; subst e1; subst e2; subst e3
          refine ⟨(z0, z1, z2, z3), fun j v hj => ?_⟩
          have hj4 : j < 4 := (List.getElem?_eq_some_iff.1 hj).1
          have := hcell j hj4
          rw [← add_assoc', this]
          exact hj
    obtain ⟨xs, hxl, hx⟩ := list_choice len each
    have hpos : 0 < len → a.block < w.heap.size := fun hp => by
      have hk := hel 0 hp
      obtain ⟨y, hy⟩ : ∃ y, elems[0]? = some y := ⟨_, List.getElem?_eq_getElem (by omega)⟩
      rw [hy, hC, Option.bind_eq_some_iff] at hk
      obtain ⟨cs', hcs, _⟩ := hk
      have := World.cells?_block hcs (by decide)
      rwa [add_block] at this
    refine ⟨some a, cap, xs, by rw [hxl], .inr rfl, by omega, by simp, ?_, by simp, fun hp => hpos (by omega), fun i z hi j v hj => hx i z hi j v hj⟩
    have : maxLen ≤ 9223372036854775807 := by simp [maxLen]
    omega
end Go.Proofs.Ytkejdfnpbkdllaa
