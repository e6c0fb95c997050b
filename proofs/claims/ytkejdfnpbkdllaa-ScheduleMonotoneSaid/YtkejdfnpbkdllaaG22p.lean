/- Plain laws of the graph's order: when it is full; what adding a node or a link keeps. No program in sight. -/
import Derived.Test.YtkejdfnpbkdllaaG22b
set_option linter.unusedVariables false
set_option linter.unusedSimpArgs false
namespace Go.Proofs.Ytkejdfnpbkdllaa
open Go

theorem pw_iff {α : Type} {r : α → α → Prop} (tr : ∀ x y z, r x y → r y z → r x z) : ∀ xs : List α, xs.Pairwise r ↔ ∀ k x y, xs[k]? = some x → xs[k + 1]? = some y → r x y
  | [] => by simp
  | [a] => by
    simp
  | a :: b :: xs => by
    have ih := pw_iff tr (b :: xs)
    constructor
    · intro h k x y hx hy
      rw [List.pairwise_cons] at h
      cases k with
      | zero =>
        simp only [List.getElem?_cons_zero, Option.some.injEq] at hx
        simp only [Nat.zero_add, List.getElem?_cons_succ, List.getElem?_cons_zero, Option.some.injEq] at hy
        subst hx; subst hy
        exact h.1 _ (by simp)
      | succ k => exact ih.1 h.2 k x y (by simpa using hx) (by simpa using hy)
    · intro h
      have h2 : (b :: xs).Pairwise r := ih.2 fun k x y hx hy => h (k + 1) x y (by simpa using hx) (by simpa using hy)
      rw [List.pairwise_cons]
      refine ⟨fun c hc => ?_, h2⟩
      have hab : r a b := h 0 a b (by simp) (by simp)
      rcases List.mem_cons.1 hc with rfl | hc
      · exact hab
      · exact tr _ _ _ hab ((List.pairwise_cons.1 h2).1 c hc)

theorem less_iff (x y : Q4) : less x y = true ↔ x.1 < y.1 ∨ (x.1 = y.1 ∧ (x.2.1 < y.2.1 ∨ (x.2.1 = y.2.1 ∧ (x.2.2.1 < y.2.2.1 ∨ (x.2.2.1 = y.2.2.1 ∧ x.2.2.2 < y.2.2.2))))) := by
  unfold less
  by_cases h1 : x.1 = y.1
  · by_cases h2 : x.2.1 = y.2.1
    · by_cases h3 : x.2.2.1 = y.2.2.1
      · simp [h1, h2, h3]
      · have e : (x.2.2.1 != y.2.2.1) = true := bne_iff_ne.2 h3
        simp [h1, h2, h3, e]
    · have e : (x.2.1 != y.2.1) = true := bne_iff_ne.2 h2
      simp [h1, h2, e]
  · have e : (x.1 != y.1) = true := bne_iff_ne.2 h1
    simp [h1, e]
theorem less_trans (x y z : Q4) (h1 : less x y = true) (h2 : less y z = true) : less x z = true := by
  rw [less_iff] at *
  omega
theorem less_irrefl (x : Q4) : less x x = false := by
  rw [← Bool.not_eq_true, less_iff]; omega
theorem less_total {x y : Q4} (h : less x y = false) (hne : x ≠ y) : less y x = true := by
  rw [← Bool.not_eq_true, less_iff] at h
  rw [less_iff]
  have : ¬ (x.1 = y.1 ∧ x.2.1 = y.2.1 ∧ x.2.2.1 = y.2.2.1 ∧ x.2.2.2 = y.2.2.2) := fun e => hne (by
    obtain ⟨x1, x2, x3, x4⟩ := x
    obtain ⟨y1, y2, y3, y4⟩ := y
    simp at e
    obtain ⟨rfl, rfl, rfl, rfl⟩ := e
    rfl)
  omega

/-- What a valid graph is, in plain words. -/
structure VG (ns ls : List Q4) : Prop where
  n64 : ns.length ≤ 64
  l256 : ls.length ≤ 256
  fit : ∀ z ∈ ns, fits z = true
  asc : ns.Pairwise fun x y => x.1 < y.1
  port : ∀ l ∈ ls, ports ns l = true
  inc : ls.Pairwise fun x y => less x y = true
  sep : ls.Pairwise fun x y => clash ns x y = false
  full : (orderS ns ls).length = ns.length

theorem pw_take {α : Type} {r : α → α → Prop} : ∀ xs : List α, xs.Pairwise r ↔ ∀ k y, xs[k]? = some y → ∀ x ∈ xs.take k, r x y
  | [] => by simp
  | a :: xs => by
    have ih := pw_take (r := r) xs
    rw [List.pairwise_cons, ih]
    constructor
    · intro h k y hy x hx
      cases k with
      | zero => simp at hx
      | succ k =>
        simp only [List.getElem?_cons_succ] at hy
        rw [List.take_succ_cons] at hx
        rcases List.mem_cons.1 hx with rfl | hx
        · exact h.1 y (List.mem_of_getElem? hy)
        · exact h.2 k y hy x hx
    · intro h
      refine ⟨fun y hy => ?_, fun k y hy x hx => h (k + 1) y (by simpa using hy) x (by simp [List.take_succ_cons, hx])⟩
      obtain ⟨k, hk⟩ := List.getElem?_of_mem hy
      exact h (k + 1) y (by simpa using hk) a (by simp [List.take_succ_cons])

theorem valid_iff (ns ls : List Q4) : validS ns ls = true ↔ VG ns ls := by
  constructor
  · intro h
    obtain ⟨h1, h2, h3, h4, h5⟩ := valid_facts h
    have e3 : ∀ k z, ns[k]? = some z → fits z = true ∧ (0 < k → (at0 ns (k - 1)).1 < z.1) := fun k z hz => by
      have := h3 k (List.getElem?_eq_some_iff.1 hz).1
      rw [nodeAt_eq hz] at this
      simp only [Bool.and_eq_true, Bool.not_eq_true', Bool.and_eq_false_iff, decide_eq_false_iff_not] at this
      refine ⟨this.1, fun hk => ?_⟩
      rcases this.2 with h | h <;> omega
    have e4 : ∀ k l, ls[k]? = some l → ports ns l = true ∧ (0 < k → less (at0 ls (k - 1)) l = true) ∧ crowded ns l (ls.take k) = false := fun k l hl => by
      have := h4 k (List.getElem?_eq_some_iff.1 hl).1
      rw [linkAt_eq hl] at this
      simp only [Bool.and_eq_true, Bool.not_eq_true', Bool.and_eq_false_iff, decide_eq_false_iff_not, Bool.not_eq_false'] at this
      refine ⟨this.1.1, fun hk => ?_, this.2⟩
      rcases this.1.2 with h | h
      · omega
      · exact h
    refine ⟨h1, h2, fun z hz => ?_, ?_, fun l hl => ?_, ?_, ?_, h5⟩
    · obtain ⟨k, hk⟩ := List.getElem?_of_mem hz
      exact (e3 k z hk).1
    · rw [pw_iff (fun x y z h1 h2 => by omega)]
      intro k x y hx hy
      have := (e3 (k + 1) y hy).2 (by omega)
      have h0 := at0_get (xs := ns) (List.getElem?_eq_some_iff.1 hx).1
      rw [Nat.add_sub_cancel] at this
      rw [hx] at h0
      cases h0
      exact this
    · obtain ⟨k, hk⟩ := List.getElem?_of_mem hl
      exact (e4 k l hk).1
    · rw [pw_iff less_trans]
      intro k x y hx hy
      have := (e4 (k + 1) y hy).2.1 (by omega)
      have h0 := at0_get (xs := ls) (List.getElem?_eq_some_iff.1 hx).1
      rw [Nat.add_sub_cancel] at this
      rw [hx] at h0
      cases h0
      exact this
    · rw [pw_take]
      intro k y hy x hx
      have := (e4 k y hy).2.2
      unfold crowded at this
      rw [List.any_eq_false] at this
      simpa using this x hx
  · intro h
    have a3 := (pw_iff (fun x y z h1 h2 => by omega) ns).1 h.asc
    have a4 := (pw_iff less_trans ls).1 h.inc
    have a5 := (pw_take ls).1 h.sep
    rw [valid_all h.n64 h.l256]
    · rw [h.full]; simp
    · intro k hk
      have hz := at0_get hk
      rw [nodeAt_eq hz]
      rw [h.fit _ (List.mem_of_getElem? hz), Bool.true_and]
      cases k with
      | zero => simp
      | succ k =>
        have hz' := at0_get (xs := ns) (k := k) (by omega)
        have := a3 k _ _ hz' hz
        rw [Nat.add_sub_cancel, decide_eq_false (show ¬ (at0 ns (k + 1)).1 ≤ (at0 ns k).1 by omega)]; simp
    · intro k hk
      have hz := at0_get hk
      rw [linkAt_eq hz, h.port _ (List.mem_of_getElem? hz), Bool.true_and]
      have hc : crowded ns (at0 ls k) (ls.take k) = false := by
        unfold crowded
        rw [List.any_eq_false]
        intro x hx
        simpa using a5 k _ hz x hx
      rw [hc]
      cases k with
      | zero => simp
      | succ k =>
        have hz' := at0_get (xs := ls) (k := k) (by omega)
        have := a4 k _ _ hz' hz
        rw [Nat.add_sub_cancel, this]; simp
end Go.Proofs.Ytkejdfnpbkdllaa
