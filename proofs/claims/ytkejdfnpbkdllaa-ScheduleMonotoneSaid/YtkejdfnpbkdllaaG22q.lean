/- Plain laws of the graph's order: it is full just where the links climb. No program in sight. -/
import Derived.Test.YtkejdfnpbkdllaaG22p
set_option linter.unusedVariables false
set_option linter.unusedSimpArgs false
namespace Go.Proofs.Ytkejdfnpbkdllaa
open Go

/-- The links climb. -/
def Climbs (ls : List Q4) : Prop := ∃ rank : Int → Nat, ∀ l ∈ ls, rank l.1 < rank l.2.2.1

/-- The numbers of the nodes, each once. -/
def ids (ns : List Q4) : List Int := ns.map (·.1)
theorem ids_nodup {ns : List Q4} (h : ns.Pairwise fun x y => x.1 < y.1) : (ids ns).Nodup := by
  unfold ids List.Nodup
  rw [List.pairwise_map]
  exact h.imp fun h => by omega

theorem todo_zero {ns : List Q4} {out : List Int} (h : todo ns out = 0) : ∀ i ∈ ids ns, i ∈ out := by
  intro i hi
  unfold ids at hi
  obtain ⟨z, hz, rfl⟩ := List.mem_map.1 hi
  unfold todo at h
  rw [List.countP_eq_zero] at h
  have := h z hz
  simpa using this

theorem countP_one {α : Type} {p q : α → Bool} : ∀ {xs : List α} {a : α}, xs.Nodup → a ∈ xs → p a = true → q a = false → (∀ x ∈ xs, x ≠ a → p x = q x) → xs.countP p = xs.countP q + 1
  | [], a, _, h, _, _, _ => by cases h
  | x :: xs, a, hn, ha, hp, hq, he => by
    rw [List.nodup_cons] at hn
    simp only [List.countP_cons]
    rcases List.mem_cons.1 ha with rfl | ha
    · have : xs.countP p = xs.countP q := List.countP_congr fun y hy => by
        rw [he y (by simp [hy]) (fun e => hn.1 (e ▸ hy))]
      simp [hp, hq, this]
    · have ih := countP_one (xs := xs) hn.2 ha hp hq fun y hy hne => he y (by simp [hy]) hne
      have hx : p x = q x := he x (by simp) (fun e => hn.1 (e ▸ ha))
      rw [ih, hx]; omega

/-- What the rounds keep: what is there is of the nodes, each once, and each has its forerunners before it. -/
structure Good (ns ls : List Q4) (out : List Int) : Prop where
  nd : out.Nodup
  sub : ∀ i ∈ out, i ∈ ids ns
  cnt : out.length + todo ns out = ns.length
  pre : ∀ k i, out[k]? = some i → ∀ l ∈ ls, l.2.2.1 = i → l.1 ∈ out.take k

theorem free_iff {ls : List Q4} {out : List Int} {i : Int} : freeB ls out i = true ↔ i ∉ out ∧ ∀ l ∈ ls, l.2.2.1 = i → l.1 ∈ out := by
  unfold freeB
  simp only [Bool.and_eq_true, Bool.not_eq_true', List.contains_eq_mem, decide_eq_false_iff_not, List.all_eq_true, Bool.or_eq_true, bne_iff_ne, decide_eq_true_eq, ne_eq]
  refine and_congr_right fun _ => forall_congr' fun l => forall_congr' fun _ => ⟨fun h e => ?_, fun h => ?_⟩
  · rcases h with h | h
    · exact absurd e h
    · exact h
  · by_cases e : l.2.2.1 = i
    · exact .inr (h e)
    · exact .inl e

theorem good_start (ns ls : List Q4) : Good ns ls [] := ⟨by simp, by simp, by simp [todo], by simp⟩
theorem good_step {ns ls : List Q4} {out : List Int} (hN : (ids ns).Nodup) (h : Good ns ls out) (h0 : nextN ls out ns ≠ 0) : Good ns ls (out ++ [nextN ls out ns]) := by
  obtain ⟨z, hz, he, hf⟩ := nextN_mem h0
  rw [← he]
  have hfr := free_iff.1 hf
  have hnm : ns.Nodup := by
    refine List.Pairwise.imp ?_ (List.pairwise_map.1 hN)
    intro a b h e
    exact h (by rw [e])
  refine ⟨?_, ?_, ?_, ?_⟩
  · rw [List.nodup_append]
    refine ⟨h.nd, by simp, ?_⟩
    intro a ha b hb
    simp only [List.mem_singleton] at hb
    subst hb
    intro e
    subst e
    exact hfr.1 ha
  · intro i hi
    rcases List.mem_append.1 hi with hi | hi
    · exact h.sub i hi
    · simp only [List.mem_singleton] at hi
      subst hi
      exact List.mem_map.2 ⟨z, hz, rfl⟩
  · have : todo ns out = todo ns (out ++ [z.1]) + 1 := by
      unfold todo
      refine countP_one hnm hz (by simpa using hfr.1) (by simp) fun x hx hne => ?_
      have hxz : x.1 ≠ z.1 := by
        intro e
        have hinj := List.pairwise_map.1 hN
        rcases List.getElem?_of_mem hx with ⟨i, hi⟩
        rcases List.getElem?_of_mem hz with ⟨j, hj⟩
        obtain ⟨hi1, hi2⟩ := List.getElem?_eq_some_iff.1 hi
        obtain ⟨hj1, hj2⟩ := List.getElem?_eq_some_iff.1 hj
        rcases Nat.lt_trichotomy i j with hl | hl | hl
        · have := List.pairwise_iff_getElem.1 hinj i j hi1 hj1 hl
          rw [hi2, hj2] at this
          exact this e
        · subst hl
          rw [hi2] at hj2
          exact hne hj2
        · have := List.pairwise_iff_getElem.1 hinj j i hj1 hi1 hl
          rw [hi2, hj2] at this
          exact this e.symm
      simp [hxz]
    have hc := h.cnt
    rw [List.length_append]
    simp only [List.length_singleton]
    omega
  · intro k i hk l hl hi
    rw [List.getElem?_append] at hk
    split at hk
    · rename_i hlt
      have := h.pre k i hk l hl hi
      rw [List.take_append_of_le_length (by omega)]
      exact this
    · rename_i hge
      have hk2 : k = out.length ∧ z.1 = i := by
        cases hx : k - out.length with
        | zero => rw [hx] at hk; simp at hk; exact ⟨by omega, hk⟩
        | succ m => rw [hx] at hk; simp at hk
      obtain ⟨rfl, rfl⟩ := hk2
      rw [List.take_left]
      exact hfr.2 l hl hi

theorem good_run {ns ls : List Q4} (hN : (ids ns).Nodup) : ∀ (k : Nat) (out : List Int), Good ns ls out → todo ns out ≤ k → Good ns ls (orderN ns ls k out) ∧ nextN ls (orderN ns ls k out) ns = 0
  | 0, out, h, hk => by
    refine ⟨h, ?_⟩
    refine Classical.byContradiction fun h0 => ?_
    obtain ⟨z, hz, he, hf⟩ := nextN_mem h0
    have := todo_lt hz (freeB_todo hf)
    change todo ns (out ++ [z.1]) < todo ns out at this
    omega
  | k + 1, out, h, hk => by
    unfold orderN
    by_cases h0 : nextN ls out ns = 0
    · rw [show (nextN ls out ns == 0) = true from beq_iff_eq.2 h0]
      exact ⟨h, h0⟩
    · rw [show (nextN ls out ns == 0) = false from beq_eq_false_iff_ne.2 h0]
      obtain ⟨z, hz, he, hf⟩ := nextN_mem h0
      have hlt := todo_lt hz (freeB_todo hf)
      rw [he] at hlt
      exact good_run hN k _ (good_step hN h h0) (by omega)

theorem good_order {ns : List Q4} (ls : List Q4) (hN : (ids ns).Nodup) : Good ns ls (orderS ns ls) ∧ nextN ls (orderS ns ls) ns = 0 := good_run hN _ _ (good_start ns ls) (todo_len ns [])

theorem nextN_zero {ls : List Q4} {out : List Int} : ∀ {ns : List Q4}, (∀ z ∈ ns, 1 ≤ z.1) → nextN ls out ns = 0 → ∀ z ∈ ns, freeB ls out z.1 = false
  | [], _, _, z, hz => by cases hz
  | y :: ns, hp, h, z, hz => by
    unfold nextN at h
    cases hf : freeB ls out y.1
    · rw [hf] at h
      rcases List.mem_cons.1 hz with rfl | hz
      · exact hf
      · exact nextN_zero (fun x hx => hp x (by simp [hx])) h z hz
    · rw [hf] at h
      have := hp y (by simp)
      change y.1 = 0 at h
      omega

theorem full_climbs {ns ls : List Q4} (hN : (ids ns).Nodup) (hin : ∀ l ∈ ls, l.2.2.1 ∈ ids ns) (h : (orderS ns ls).length = ns.length) : Climbs ls := by
  obtain ⟨hg, _⟩ := good_order ls hN
  have h0 : todo ns (orderS ns ls) = 0 := by have := hg.cnt; omega
  refine ⟨fun i => (orderS ns ls).idxOf i, fun l hl => ?_⟩
  have hm : l.2.2.1 ∈ orderS ns ls := todo_zero h0 _ (hin l hl)
  have hlt := List.idxOf_lt_length_iff.2 hm
  have hget : (orderS ns ls)[(orderS ns ls).idxOf l.2.2.1]? = some l.2.2.1 := by rw [List.getElem?_eq_getElem hlt, List.getElem_idxOf]
  have hp := hg.pre _ _ hget l hl rfl
  obtain ⟨j, hj⟩ := List.getElem?_of_mem hp
  rw [List.getElem?_take] at hj
  split at hj
  · rename_i hjl
    have hj1 := (List.getElem?_eq_some_iff.1 hj).1
    have hj2 := (List.getElem?_eq_some_iff.1 hj).2
    have : (orderS ns ls).idxOf l.1 ≤ j := by
      refine Classical.byContradiction fun hno => ?_
      have hlj : j < (orderS ns ls).findIdx (· == l.1) := by
        show j < (orderS ns ls).idxOf l.1
        omega
      have hne := List.not_of_lt_findIdx hlj
      simp [hj2] at hne
    show (orderS ns ls).idxOf l.1 < (orderS ns ls).idxOf l.2.2.1
    omega
  · cases hj

theorem climbs_full {ns ls : List Q4} (hN : (ids ns).Nodup) (hp : ∀ z ∈ ns, 1 ≤ z.1) (hin : ∀ l ∈ ls, l.1 ∈ ids ns) (h : Climbs ls) : (orderS ns ls).length = ns.length := by
  obtain ⟨rank, hr⟩ := h
  obtain ⟨hg, h0⟩ := good_order ls hN
  have hz := nextN_zero hp h0
  have hno : ∀ m i, rank i ≤ m → i ∈ ids ns → i ∈ orderS ns ls := by
    intro m
    induction m with
    | zero =>
      intro i hi hm
      obtain ⟨z, hzm, rfl⟩ := List.mem_map.1 hm
      refine Classical.byContradiction fun hn => ?_
      have hf := hz z hzm
      have : freeB ls (orderS ns ls) z.1 = true := free_iff.2 ⟨hn, fun l hl e => by
        have := hr l hl
        rw [e] at this
        omega⟩
      rw [hf] at this
      cases this
    | succ m ih =>
      intro i hi hm
      obtain ⟨z, hzm, rfl⟩ := List.mem_map.1 hm
      refine Classical.byContradiction fun hn => ?_
      have hf := hz z hzm
      have : freeB ls (orderS ns ls) z.1 = true := free_iff.2 ⟨hn, fun l hl e => by
        have h1 := hr l hl
        rw [e] at h1
        exact ih l.1 (by omega) (hin l hl)⟩
      rw [hf] at this
      cases this
  have ht : todo ns (orderS ns ls) = 0 := by
    unfold todo
    rw [List.countP_eq_zero]
    intro z hzm
    have := hno (rank z.1) z.1 (Nat.le_refl _) (List.mem_map.2 ⟨z, hzm, rfl⟩)
    simpa using this
  have := hg.cnt
  omega
end Go.Proofs.Ytkejdfnpbkdllaa
