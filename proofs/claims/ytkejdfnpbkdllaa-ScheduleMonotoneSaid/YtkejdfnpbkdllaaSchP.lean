/- Plain laws of the list schedule: what a step does, and that the steps come to an end. No program in sight. -/
import Derived.Test.YtkejdfnpbkdllaaSch4
set_option linter.unusedVariables false
set_option linter.unusedSimpArgs false
namespace Go.Proofs.Ytkejdfnpbkdllaa
open Go

/-- When a node ends, -1 without a slot. -/
def endI (l : List Q4) (i : Int) : Int := if slotI l i < 0 then -1 else (at0 l (slotI l i).toNat).2.2.2
def endsOf (ns l : List Q4) : List Int := ns.map fun z => endI l z.1
theorem endsOf_len (ns l : List Q4) : (endsOf ns l).length = ns.length := List.length_map ..
theorem at1_ends {ns l : List Q4} {i : Int} (hi : 0 ≤ placeI ns i) : at1 (endsOf ns l) (placeI ns i).toNat = endI l i := by
  obtain ⟨z, h1, h2⟩ := place_get hi
  unfold at1 endsOf
  rw [List.getD_eq_getElem?_getD, List.getElem?_map, h1, ← h2]; rfl
theorem endI_neg {l : List Q4} {i : Int} (h : ∀ s ∈ l, 0 ≤ s.2.2.2) : endI l i < 0 ↔ slotI l i < 0 := by
  unfold endI
  by_cases hs : slotI l i < 0
  · rw [if_pos hs]; simp [hs]
  · rw [if_neg hs]
    have := h _ (slot_some (l := l) (i := i) (by omega)).1
    constructor <;> intro _ <;> omega
theorem late_endI {ns l : List Q4} {t i : Int} (h : ∀ s ∈ l, 0 ≤ s.2.2.2) (hi : 0 ≤ placeI ns i) : lateB (endsOf ns l) t (placeI ns i) = (decide (slotI l i < 0) || decide (t < (at0 l (slotI l i).toNat).2.2.2)) := by
  unfold lateB
  rw [at1_ends hi]
  by_cases hs : slotI l i < 0
  · rw [decide_eq_true ((endI_neg h).2 hs), decide_eq_true hs]; rfl
  · rw [decide_eq_false (fun e => hs ((endI_neg h).1 e)), decide_eq_false hs]
    unfold endI
    rw [if_neg hs]
theorem ready_eq {ns ls l : List Q4} {t i : Int} (hg : VG ns ls) (h : ∀ s ∈ l, 0 ≤ s.2.2.2) (hi : 0 ≤ placeI ns i) : readyK (endsOf ns l) t (befRow ns ls i) (placeI ns i) = okNext ls l t i := by
  unfold readyK okNext
  rw [at1_ends hi]
  congr 1
  · rw [Bool.eq_iff_iff, decide_eq_true_eq, decide_eq_true_eq]; exact endI_neg h
  · unfold readyS befRow linksTo
    rw [List.any_map, List.any_filter, List.all_eq_not_any_not]
    congr 1
    rw [Bool.eq_iff_iff, List.any_eq_true, List.any_eq_true]
    constructor
    · rintro ⟨k, hk, hb⟩
      refine ⟨k, hk, ?_⟩
      simp only [Bool.and_eq_true, Function.comp_apply, Bool.not_not] at hb ⊢
      rw [late_endI h (place_in (ports_ends (hg.port k hk)).1).1] at hb
      unfold badL
      rw [hb.1, hb.2]; rfl
    · rintro ⟨k, hk, hb⟩
      refine ⟨k, hk, ?_⟩
      unfold badL at hb
      simp only [Bool.and_eq_true, Function.comp_apply, Bool.not_not] at hb ⊢
      rw [late_endI h (place_in (ports_ends (hg.port k hk)).1).1]
      exact hb
theorem fIx_map {α β : Type} (p : β → Bool) (g : α → β) : ∀ (xs : List α) (k : Int), fIx p (xs.map g) k = fIx (fun x => p (g x)) xs k
  | [], k => rfl
  | x :: xs, k => by
    rw [List.map_cons]
    unfold fIx
    rw [fIx_map p g xs (k + 1)]
theorem fIx_congr {α : Type} {p q : α → Bool} : ∀ {xs : List α} {k : Int}, (∀ x ∈ xs, p x = q x) → fIx p xs k = fIx q xs k
  | [], k, _ => rfl
  | x :: xs, k, h => by
    unfold fIx
    rw [h x (by simp), fIx_congr (xs := xs) (k := k + 1) (fun y hy => h y (by simp [hy]))]
theorem fIx_find {α : Type} (q : α → Bool) : ∀ (xs : List α) (k : Int), 0 ≤ k → (fIx q xs k < 0 ∧ xs.find? q = none) ∨ (0 ≤ fIx q xs k ∧ ∃ x, xs[(fIx q xs k - k).toNat]? = some x ∧ xs.find? q = some x ∧ q x = true)
  | [], k, hk => .inl ⟨by simp [fIx], rfl⟩
  | x :: xs, k, hk => by
    unfold fIx
    rw [List.find?_cons]
    cases hq : q x
    · simp only [cond_false]
      rcases fIx_find q xs (k + 1) (by omega) with h | ⟨h1, y, h2, h3⟩
      · exact .inl h
      · refine .inr ⟨h1, y, ?_, h3⟩
        have hr := fIx_range (p := q) xs (k + 1)
        have e : (fIx q xs (k + 1) - k).toNat = (fIx q xs (k + 1) - (k + 1)).toNat + 1 := by omega
        rw [e, List.getElem?_cons_succ]
        exact h2
    · simp only [cond_true]
      exact .inr ⟨hk, x, by simp, rfl, hq⟩
theorem fIx_snoc {α : Type} (p : α → Bool) (y : α) : ∀ (xs : List α) (k : Int), 0 ≤ k → fIx p (xs ++ [y]) k = if fIx p xs k < 0 then (if p y then k + xs.length else -1) else fIx p xs k
  | [], k, hk => by
    simp only [List.nil_append]
    unfold fIx fIx
    rw [if_pos (by omega)]
    cases p y <;> simp
  | x :: xs, k, hk => by
    rw [List.cons_append]
    unfold fIx
    cases p x
    · simp only [cond_false]
      rw [fIx_snoc p y xs (k + 1) (by omega)]
      simp only [List.length_cons]
      split
      · split <;> first | rfl | omega
      · rfl
    · simp only [cond_true]
      rw [if_neg (by omega)]
theorem endI_snoc {l : List Q4} {s : Q4} {i : Int} : endI (l ++ [s]) i = if slotI l i < 0 then (if s.1 = i then s.2.2.2 else -1) else endI l i := by
  have hs := fIx_snoc (fun z : Q4 => z.1 == i) s l 0 (Int.le_refl _)
  change slotI (l ++ [s]) i = if slotI l i < 0 then _ else slotI l i at hs
  unfold endI
  rw [hs]
  by_cases h1 : slotI l i < 0
  · simp only [if_pos h1]
    by_cases h2 : s.1 = i
    · have : (s.1 == i) = true := beq_iff_eq.2 h2
      rw [this, if_pos rfl, if_pos h2, if_neg (by omega)]
      have e : (0 + (l.length : Int)).toNat = l.length := by omega
      rw [e]
      unfold at0
      rw [List.getD_eq_getElem?_getD, List.getElem?_append_right (Nat.le_refl _)]
      simp
    · have : (s.1 == i) = false := beq_eq_false_iff_ne.2 h2
      rw [this, if_neg h2]
      simp
  · simp only [if_neg h1]
    have hr := fIx_range (p := fun z : Q4 => z.1 == i) l 0
    change slotI l i = -1 ∨ (0 ≤ slotI l i ∧ slotI l i < 0 + l.length) at hr
    unfold at0
    rw [List.getD_eq_getElem?_getD, List.getD_eq_getElem?_getD, List.getElem?_append_left (by omega)]
theorem endsOf_snoc {ns l : List Q4} {s : Q4} (hN : (ids ns).Nodup) (hi : 0 ≤ placeI ns s.1) (hs : slotI l s.1 < 0) : endsOf ns (l ++ [s]) = (endsOf ns l).set (placeI ns s.1).toNat s.2.2.2 := by
  apply List.ext_getElem?
  intro j
  rw [List.getElem?_set]
  unfold endsOf
  rw [List.getElem?_map, List.getElem?_map, List.length_map]
  by_cases hj : j < ns.length
  · obtain ⟨y, hy⟩ := get_of hj
    have hp := place_at hN hy
    rw [hy]
    simp only [Option.map_some]
    rw [endI_snoc]
    by_cases e : (placeI ns s.1).toNat = j
    · have hjn : (placeI ns s.1).toNat < ns.length := by omega
      rw [if_pos e, if_pos hjn]
      have e2 : s.1 = y.1 := place_inj (ns := ns) hi (by omega)
      rw [← e2, if_pos hs, if_pos rfl]
    · rw [if_neg e]
      by_cases h1 : slotI l y.1 < 0
      · rw [if_pos h1, if_neg (fun e2 => e (by rw [e2, hp]; omega))]
        unfold endI
        rw [if_pos h1]
      · rw [if_neg h1]
  · rw [List.getElem?_eq_none (by omega)]
    split
    · rename_i e
      have hjn : ¬ (placeI ns s.1).toNat < ns.length := by omega
      rw [if_neg hjn]; rfl
    · rfl

/-- What a step does, told by where the search stops. -/
theorem next_of {ns ls : List Q4} {os : List Int} {l : List Q4} {t : Int} (hpos : ∀ i ∈ os, 1 ≤ i) :
    (fIx (okNext ls l t) os 0 < 0 ∧ nextI ls os l t = 0) ∨ (0 ≤ fIx (okNext ls l t) os 0 ∧ ∃ x, os[(fIx (okNext ls l t) os 0).toNat]? = some x ∧ nextI ls os l t = x ∧ 1 ≤ x ∧ okNext ls l t x = true) := by
  rcases fIx_find (okNext ls l t) os 0 (Int.le_refl _) with ⟨h1, h2⟩ | ⟨h1, x, h2, h3, h4⟩
  · exact .inl ⟨h1, by unfold nextI; rw [h2]; rfl⟩
  · rw [Int.sub_zero] at h2
    exact .inr ⟨h1, x, h2, by unfold nextI; rw [h3]; rfl, hpos x (List.mem_of_getElem? h2), h4⟩
theorem step_slot {ns ls : List Q4} {cs os : List Int} {st : CS} (h0 : 1 ≤ nextI ls os st.l st.t) (hf : 0 ≤ freeI st.b st.t) :
    compStep ns ls cs os st = ⟨st.l ++ [(nextI ls os st.l st.t, freeI st.b st.t, st.t, st.t + at1 cs (placeI ns (nextI ls os st.l st.t)).toNat)], st.b.set (freeI st.b st.t).toNat (st.t + at1 cs (placeI ns (nextI ls os st.l st.t)).toNat), st.t⟩ := by
  unfold compStep
  rw [beq_eq_false_iff_ne.2 (show nextI ls os st.l st.t ≠ 0 by omega), decide_eq_false (show ¬ freeI st.b st.t < 0 by omega)]; rfl
theorem step_time {ns ls : List Q4} {cs os : List Int} {st : CS} (h : nextI ls os st.l st.t = 0 ∨ freeI st.b st.t < 0) : compStep ns ls cs os st = ⟨st.l, st.b, laterS st.l st.t⟩ := by
  unfold compStep
  rcases h with h | h
  · rw [beq_iff_eq.2 h]; rfl
  · rw [decide_eq_true h, Bool.or_true]; rfl
theorem ord_pos {ns ls : List Q4} (g : VG ns ls) : ∀ i ∈ orderS ns ls, 1 ≤ i := fun i hi => by
  obtain ⟨z, hz, rfl⟩ := List.mem_map.1 ((good_order ls g.nd).1.sub i hi)
  exact g.pos z hz

theorem Run.start {ns ls : List Q4} {cs : List Int} {wk : Nat} : Run ns ls cs wk ⟨[], List.replicate wk 0, 0⟩ :=
  ⟨by simp, by simp, by simp, by simp, by simp, by simp, fun x hx => .inl (List.mem_replicate.1 hx).2⟩
theorem Run.step {ns ls : List Q4} {cs : List Int} {wk : Nat} {st : CS} (g : VG ns ls) (hc : ∀ c ∈ cs, 0 ≤ c ∧ c ≤ 1099511627776) (hw : 1 ≤ wk) (h : Run ns ls cs wk st) (hl : st.l.length < ns.length) :
    Run ns ls cs wk (compStep ns ls cs (orderS ns ls) st) ∧ pot ns (compStep ns ls cs (orderS ns ls) st) < pot ns st := by
  have hgo := (good_order ls g.nd).1
  by_cases hslot : 1 ≤ nextI ls (orderS ns ls) st.l st.t ∧ 0 ≤ freeI st.b st.t
  · rw [step_slot hslot.1 hslot.2]
    rcases next_of (ns := ns) (ls := ls) (l := st.l) (t := st.t) (ord_pos g) with h1 | ⟨_, x, h2, h3, h4, h5⟩
    · omega
    rw [h3]
    have hx : x ∈ ids ns := hgo.sub x (List.mem_of_getElem? h2)
    have hsx : slotI st.l x < 0 := by
      unfold okNext at h5
      simp only [Bool.and_eq_true, decide_eq_true_eq] at h5
      exact h5.1
    have hno := slot_none.1 hsx
    have hcb := at1_bound (k := (placeI ns x).toNat) hc (by omega)
    have ht := h.time
    have hll : ((st.l.length + 1 : Nat) : Int) * 1099511627776 = (st.l.length : Int) * 1099511627776 + 1099511627776 := by omega
    refine ⟨⟨?_, ?_, ?_, ?_, ?_, ?_, ?_⟩, ?_⟩
    · rw [List.map_append, List.nodup_append]
      refine ⟨h.nd, by simp, fun y hy z hz => ?_⟩
      simp only [List.map_cons, List.map_nil, List.mem_singleton] at hz
      subst hz
      obtain ⟨s, hs, rfl⟩ := List.mem_map.1 hy
      exact hno s hs
    · intro s hs
      rcases List.mem_append.1 hs with hs | hs
      · exact h.sub s hs
      · simp only [List.mem_singleton] at hs
        subst hs
        exact hx
    · simp only [List.length_append, List.length_singleton]; omega
    · simp only [List.length_set]; exact h.blen
    · intro s hs
      simp only [List.length_append, List.length_singleton]
      rcases List.mem_append.1 hs with hs | hs
      · have := h.ends s hs
        omega
      · simp only [List.mem_singleton] at hs
        subst hs
        dsimp only
        omega
    · simp only [List.length_append, List.length_singleton]
      omega
    · intro y hy
      rcases List.mem_or_eq_of_mem_set hy with hy | hy
      · rcases h.busy y hy with e | ⟨s, hs, e⟩
        · exact .inl e
        · exact .inr ⟨s, by simp [hs], e⟩
      · exact .inr ⟨_, by simp; exact .inr rfl, hy.symm⟩
    · unfold pot future
      simp only [List.length_append, List.length_singleton, List.countP_append]
      have : ([(x, freeI st.b st.t, st.t, st.t + at1 cs (placeI ns x).toNat)] : List Q4).countP (fun s => decide (st.t < s.2.2.2)) ≤ 1 := List.countP_le_length
      omega
  · have hor : nextI ls (orderS ns ls) st.l st.t = 0 ∨ freeI st.b st.t < 0 := by
      rcases next_of (ns := ns) (ls := ls) (l := st.l) (t := st.t) (ord_pos g) with h1 | ⟨_, x, h2, h3, h4, h5⟩
      · exact .inl h1.2
      · omega
    rw [step_time hor]
    have hp := run_progress g hw h hl hor
    obtain ⟨h1, s, hs, h2⟩ := later_some h.time.1 hp
    have hse := h.ends s hs
    have ht := h.time
    refine ⟨⟨h.nd, h.sub, h.len, h.blen, h.ends, ?_, h.busy⟩, ?_⟩
    · dsimp only; omega
    · unfold pot future
      dsimp only
      have : st.l.countP (fun s => decide (laterS st.l st.t < s.2.2.2)) < st.l.countP (fun s => decide (st.t < s.2.2.2)) := by
        refine countP_lt (fun y _ hy => ?_) ⟨s, hs, ?_, ?_⟩
        · simp only [decide_eq_true_eq] at hy ⊢; omega
        · simp only [decide_eq_true_eq]; omega
        · simp only [decide_eq_false_iff_not]; omega
      omega
/-- The rounds that are left are enough. -/
def Going (ns ls : List Q4) (cs : List Int) (wk : Nat) (st : CS) : Prop := ∃ k, pot ns st ≤ k ∧ (compN ns ls cs (orderS ns ls) k st).l = compS ns ls cs wk
theorem Going.start {ns ls : List Q4} {cs : List Int} {wk : Nat} : Going ns ls cs wk ⟨[], List.replicate wk 0, 0⟩ := ⟨2 * ns.length, by simp [pot, future], rfl⟩
theorem Going.step {ns ls : List Q4} {cs : List Int} {wk : Nat} {st : CS} (h : Going ns ls cs wk st) (hl : st.l.length < ns.length) (hp : pot ns (compStep ns ls cs (orderS ns ls) st) < pot ns st) : Going ns ls cs wk (compStep ns ls cs (orderS ns ls) st) := by
  obtain ⟨k, h1, h2⟩ := h
  cases k with
  | zero => omega
  | succ k =>
    refine ⟨k, by omega, ?_⟩
    rw [← h2]
    conv => rhs; unfold compN
    rw [decide_eq_true hl]; rfl
theorem Going.stop {ns ls : List Q4} {cs : List Int} {wk : Nat} {st : CS} (h : Going ns ls cs wk st) (hl : ¬ st.l.length < ns.length) : compS ns ls cs wk = st.l := by
  obtain ⟨k, _, h2⟩ := h
  rw [← h2]
  cases k with
  | zero => rfl
  | succ k =>
    unfold compN
    rw [decide_eq_false hl]; rfl
/-- What is compiled, and the error. -/
def compO (ns ls : List Q4) (cs : List Int) (wk : Int) : List Q4 := bif problemS ns ls cs wk then compS ns ls cs wk.toNat else []
def compE (ns ls : List Q4) (cs : List Int) (wk : Int) : Int := bif problemS ns ls cs wk then 0 else 1
end Go.Proofs.Ytkejdfnpbkdllaa
