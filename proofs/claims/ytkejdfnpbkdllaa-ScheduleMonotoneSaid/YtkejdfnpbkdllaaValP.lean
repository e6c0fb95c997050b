/- Plain laws: what a valid list of slots is. No program in sight. -/
import Derived.Test.YtkejdfnpbkdllaaSch6
set_option linter.unusedVariables false
set_option linter.unusedSimpArgs false
namespace Go.Proofs.Ytkejdfnpbkdllaa
open Go Go.RowKit Go.Proofs.YtkejdfnpbkdllaaV

def vSlotB (ns ls : List Q4) (cs : List Int) (wk : Int) (l : List Q4) (j : Nat) (s : Q4) : Bool :=
  !(decide (placeI ns s.1 < 0) || (slotI l s.1 != (j : Int)) || decide (s.2.1 < 0) || decide (wk ≤ s.2.1) || decide (s.2.2.1 < 0) || decide (s.2.2.2 < s.2.2.1) || (wrap64 (s.2.2.2 - s.2.2.1) != at1 cs (placeI ns s.1).toNat) || !readyS ls l s.1 s.2.2.1)
def overB (x s : Q4) : Bool := x.2.1 == s.2.1 && decide (s.2.2.1 < x.2.2.2) && decide (x.2.2.1 < s.2.2.2)
def vAt (ns ls : List Q4) (cs : List Int) (wk : Int) (l : List Q4) (j : Nat) : Bool := match l[j]? with
  | none => true
  | some s => vSlotB ns ls cs wk l j s && !(l.take j).any fun x => overB x s
/-- Whether slots are a schedule. -/
def schV (ns ls : List Q4) (cs : List Int) (wk : Int) (l : List Q4) : Bool := problemS ns ls cs wk && ((l.length : Int) == (ns.length : Int)) && (List.range l.length).all (vAt ns ls cs wk l)
theorem vAt_eq {ns ls : List Q4} {cs : List Int} {wk : Int} {l : List Q4} {j : Nat} {s : Q4} (h : l[j]? = some s) : vAt ns ls cs wk l j = (vSlotB ns ls cs wk l j s && !(l.take j).any fun x => overB x s) := by unfold vAt; rw [h]
theorem schV_no1 {ns ls : List Q4} {cs : List Int} {wk : Int} {l : List Q4} (h : problemS ns ls cs wk = false ∨ ((l.length : Int) == (ns.length : Int)) = false) : schV ns ls cs wk l = false := by
  unfold schV
  rcases h with h | h <;> rw [h] <;> simp
theorem schV_no2 {ns ls : List Q4} {cs : List Int} {wk : Int} {l : List Q4} {j : Nat} (hj : j < l.length) (h : vAt ns ls cs wk l j = false) : schV ns ls cs wk l = false := by
  unfold schV
  rw [all_no hj h]; simp
theorem schV_all {ns ls : List Q4} {cs : List Int} {wk : Int} {l : List Q4} (h1 : problemS ns ls cs wk = true) (h2 : ((l.length : Int) == (ns.length : Int)) = true) (h3 : ∀ j, j < l.length → vAt ns ls cs wk l j = true) : schV ns ls cs wk l = true := by
  unfold schV
  rw [h1, h2, all_yes h3]; rfl

/-- The same in plain words. -/
structure SV (ns ls : List Q4) (cs : List Int) (wk : Int) (l : List Q4) : Prop where
  prob : problemS ns ls cs wk = true
  len : l.length = ns.length
  place : ∀ s ∈ l, 0 ≤ placeI ns s.1
  nd : (l.map (·.1)).Nodup
  wk : ∀ s ∈ l, 0 ≤ s.2.1 ∧ s.2.1 < wk
  st : ∀ s ∈ l, 0 ≤ s.2.2.1 ∧ s.2.2.1 ≤ s.2.2.2
  cost : ∀ s ∈ l, wrap64 (s.2.2.2 - s.2.2.1) = at1 cs (placeI ns s.1).toNat
  wait : ∀ s ∈ l, ∀ k ∈ ls, k.2.2.1 = s.1 → ∀ x ∈ l, x.1 = k.1 → x.2.2.2 ≤ s.2.2.1
  apart : l.Pairwise fun x s => overB x s = false

theorem slot_of_get {l : List Q4} (hn : (l.map (·.1)).Nodup) {j : Nat} {s : Q4} (hs : l[j]? = some s) : slotI l s.1 = j := by
  have h := place_at (ns := l) (by unfold ids; exact hn) hs
  exact h
theorem nodup_full {xs ys : List Int} (hx : xs.Nodup) (hy : ys.Nodup) (hs : ∀ x ∈ xs, x ∈ ys) (hl : xs.length = ys.length) : ∀ y ∈ ys, y ∈ xs := fun y hy' => Classical.byContradiction fun hn => by
  have h1 : (y :: xs).Nodup := List.nodup_cons.2 ⟨hn, hx⟩
  have := nodup_len_le h1 (ys := ys) (fun z hz => by
    rcases List.mem_cons.1 hz with rfl | hz
    · exact hy'
    · exact hs z hz)
  simp only [List.length_cons] at this
  omega
theorem SV.vg {ns ls : List Q4} {cs : List Int} {wk : Int} {l : List Q4} (h : SV ns ls cs wk l) : VG ns ls := (valid_iff ns ls).1 (prob_of h.prob).1
/-- Each node has its slot. -/
theorem SV.full {ns ls : List Q4} {cs : List Int} {wk : Int} {l : List Q4} (h : SV ns ls cs wk l) : ∀ i ∈ ids ns, ∃ s ∈ l, s.1 = i := fun i hi => by
  have := nodup_full h.nd h.vg.nd (fun x hx => by obtain ⟨s, hs, rfl⟩ := List.mem_map.1 hx; exact ids_place.2 (h.place s hs)) (by unfold ids; rw [List.length_map, List.length_map, h.len]) i hi
  obtain ⟨s, hs, he⟩ := List.mem_map.1 this
  exact ⟨s, hs, he⟩
theorem overB_symm (x s : Q4) : overB x s = overB s x := by
  unfold overB
  rw [Bool.beq_comm (a := x.2.1), Bool.and_assoc, Bool.and_assoc]
  congr 1
  exact Bool.and_comm ..
theorem schV_iff (ns ls : List Q4) (cs : List Int) (wk : Int) (l : List Q4) : schV ns ls cs wk l = true ↔ SV ns ls cs wk l := by
  constructor
  · intro h
    unfold schV at h
    simp only [Bool.and_eq_true, beq_iff_eq, List.all_eq_true, List.mem_range] at h
    obtain ⟨⟨h1, h2⟩, h3⟩ := h
    have e : ∀ (j : Nat) (s : Q4), l[j]? = some s → vSlotB ns ls cs wk l j s = true ∧ ((l.take j).any fun x => overB x s) = false := fun j s hs => by
      have := h3 j (List.getElem?_eq_some_iff.1 hs).1
      rw [vAt_eq hs, Bool.and_eq_true, Bool.not_eq_true'] at this
      exact this
    have e2 : ∀ (j : Nat) (s : Q4), l[j]? = some s → 0 ≤ placeI ns s.1 ∧ slotI l s.1 = j ∧ 0 ≤ s.2.1 ∧ s.2.1 < wk ∧ 0 ≤ s.2.2.1 ∧ s.2.2.1 ≤ s.2.2.2 ∧ wrap64 (s.2.2.2 - s.2.2.1) = at1 cs (placeI ns s.1).toNat ∧ readyS ls l s.1 s.2.2.1 = true := fun j s hs => by
      have := (e j s hs).1
      unfold vSlotB at this
      simp only [Bool.not_eq_true', Bool.or_eq_false_iff, decide_eq_false_iff_not, bne_eq_false_iff_eq, Bool.not_eq_false'] at this
      obtain ⟨⟨⟨⟨⟨⟨⟨a1, a2⟩, a3⟩, a4⟩, a5⟩, a6⟩, a7⟩, a8⟩ := this
      exact ⟨by omega, a2, by omega, by omega, by omega, by omega, a7, a8⟩
    have m2 : ∀ s ∈ l, ∃ j, l[j]? = some s := fun s hs => List.getElem?_of_mem hs
    have hnd : (l.map (·.1)).Nodup := by
      unfold List.Nodup
      rw [List.pairwise_map, List.pairwise_iff_getElem]
      intro i j hi hj hij he
      have a := (e2 i _ (List.getElem?_eq_getElem hi)).2.1
      have b := (e2 j _ (List.getElem?_eq_getElem hj)).2.1
      rw [he] at a
      omega
    refine ⟨h1, by omega, fun s hs => ?_, hnd, fun s hs => ?_, fun s hs => ?_, fun s hs => ?_, fun s hs k hk hks x hx hxk => ?_, ?_⟩
    · obtain ⟨j, hj⟩ := m2 s hs; exact (e2 j s hj).1
    · obtain ⟨j, hj⟩ := m2 s hs; have := e2 j s hj; omega
    · obtain ⟨j, hj⟩ := m2 s hs; have := e2 j s hj; omega
    · obtain ⟨j, hj⟩ := m2 s hs; exact (e2 j s hj).2.2.2.2.2.2.1
    · obtain ⟨j, hj⟩ := m2 s hs
      obtain ⟨i, hi⟩ := m2 x hx
      have := (ready_spec.1 (e2 j s hj).2.2.2.2.2.2.2 k hk hks).2
      rw [← hxk, slot_of_get hnd hi] at this
      have hat := at0_get (xs := l) (List.getElem?_eq_some_iff.1 hi).1
      rw [hi] at hat
      cases hat
      exact this
    · rw [pw_take]
      intro j s hs x hx
      have := (e j s hs).2
      rw [List.any_eq_false] at this
      simpa using this x hx
  · intro h
    refine schV_all h.prob (beq_iff_eq.2 (by rw [h.len])) fun j hj => ?_
    obtain ⟨s, hs⟩ := get_of hj
    have hm := List.mem_of_getElem? hs
    rw [vAt_eq hs, Bool.and_eq_true, Bool.not_eq_true']
    constructor
    · unfold vSlotB
      have a1 := h.place s hm
      have a3 := h.wk s hm
      have a4 := h.st s hm
      have hr : readyS ls l s.1 s.2.2.1 = true := ready_spec.2 fun k hk hks => by
        obtain ⟨x, hx, hxk⟩ := h.full k.1 (ports_ends (h.vg.port k hk)).1
        obtain ⟨i, hi⟩ := List.getElem?_of_mem hx
        have := slot_of_get h.nd hi
        rw [← hxk, this]
        have hat := at0_get (xs := l) (List.getElem?_eq_some_iff.1 hi).1
        rw [hi] at hat
        cases hat
        exact ⟨by omega, h.wait s hm k hk hks _ hx hxk⟩
      rw [hr, decide_eq_false (show ¬ placeI ns s.1 < 0 by omega), slot_of_get h.nd hs, decide_eq_false (show ¬ s.2.1 < 0 by omega), decide_eq_false (show ¬ wk ≤ s.2.1 by omega), decide_eq_false (show ¬ s.2.2.1 < 0 by omega), decide_eq_false (show ¬ s.2.2.2 < s.2.2.1 by omega), h.cost s hm]
      simp
    · rw [List.any_eq_false]
      intro x hx
      have := (pw_take l).1 h.apart j s hs x hx
      rw [this]; simp
theorem schV_no {ns ls : List Q4} {cs : List Int} {wk : Int} {l : List Q4} (h : ¬ SV ns ls cs wk l) : schV ns ls cs wk l = false := by
  rw [← Bool.not_eq_true, schV_iff]; exact h
theorem schV_yes {ns ls : List Q4} {cs : List Int} {wk : Int} {l : List Q4} (h : SV ns ls cs wk l) : schV ns ls cs wk l = true := (schV_iff ..).2 h
end Go.Proofs.Ytkejdfnpbkdllaa
