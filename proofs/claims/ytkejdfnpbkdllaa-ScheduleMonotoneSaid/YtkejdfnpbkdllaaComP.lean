/- Plain laws: what holds of every step holds of what is compiled. No program in sight. -/
import Derived.Test.YtkejdfnpbkdllaaSchP
set_option linter.unusedVariables false
set_option linter.unusedSimpArgs false
namespace Go.Proofs.Ytkejdfnpbkdllaa
open Go

theorem comp_inv_from {ns ls : List Q4} {cs : List Int} {wk : Nat} (g : VG ns ls) (hc : ∀ c ∈ cs, 0 ≤ c ∧ c ≤ 1099511627776) (hw : 1 ≤ wk) {P : CS → Prop}
    (hs : ∀ st, Run ns ls cs wk st → P st → st.l.length < ns.length → P (compStep ns ls cs (orderS ns ls) st)) : ∀ (k : Nat) (st : CS), pot ns st ≤ k → Run ns ls cs wk st → P st → Going ns ls cs wk st → ∃ st, Run ns ls cs wk st ∧ P st ∧ compS ns ls cs wk = st.l ∧ ns.length ≤ st.l.length
  | 0, st, hk, hR, hP, hG => by
    by_cases hl : st.l.length < ns.length
    · have := (hR.step g hc hw hl).2
      omega
    · exact ⟨st, hR, hP, hG.stop hl, by omega⟩
  | k + 1, st, hk, hR, hP, hG => by
    by_cases hl : st.l.length < ns.length
    · have h := hR.step g hc hw hl
      exact comp_inv_from g hc hw hs k _ (by omega) h.1 (hs st hR hP hl) (hG.step hl h.2)
    · exact ⟨st, hR, hP, hG.stop hl, by omega⟩
/-- What holds at first and is kept by each step holds at the end. -/
theorem comp_inv {ns ls : List Q4} {cs : List Int} {wk : Nat} (g : VG ns ls) (hc : ∀ c ∈ cs, 0 ≤ c ∧ c ≤ 1099511627776) (hw : 1 ≤ wk) {P : CS → Prop} (h0 : P ⟨[], List.replicate wk 0, 0⟩)
    (hs : ∀ st, Run ns ls cs wk st → P st → st.l.length < ns.length → P (compStep ns ls cs (orderS ns ls) st)) : ∃ st, Run ns ls cs wk st ∧ P st ∧ compS ns ls cs wk = st.l ∧ ns.length ≤ st.l.length :=
  comp_inv_from g hc hw hs _ _ (Nat.le_refl _) Run.start h0 Going.start
theorem compO_len (ns ls : List Q4) (cs : List Int) (wk : Int) : (compO ns ls cs wk).length ≤ 64 := by
  unfold compO
  cases hp : problemS ns ls cs wk
  · simp
  · have hpo := prob_of hp
    have hvf := valid_facts hpo.1
    obtain ⟨st, hR, _, he, _⟩ := comp_inv (wk := wk.toNat) ((valid_iff ns ls).1 hpo.1) hpo.2.2.2.2 (by omega) (P := fun _ => True) trivial (fun _ _ _ _ => trivial)
    rw [cond_true, he]
    have := hR.len
    omega
end Go.Proofs.Ytkejdfnpbkdllaa
