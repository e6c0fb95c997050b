/- Plain laws of the list schedule: it comes to an end. No program in sight. -/
import Derived.Test.YtkejdfnpbkdllaaR25b
set_option linter.unusedVariables false
set_option linter.unusedSimpArgs false
namespace Go.Proofs.Ytkejdfnpbkdllaa
open Go

theorem nodup_len_le {α : Type} [BEq α] [LawfulBEq α] : ∀ {xs ys : List α}, xs.Nodup → (∀ x ∈ xs, x ∈ ys) → xs.length ≤ ys.length
  | [], ys, _, _ => Nat.zero_le _
  | x :: xs, ys, hn, h => by
    rw [List.nodup_cons] at hn
    have hx : x ∈ ys := h x (by simp)
    have := nodup_len_le (xs := xs) (ys := ys.erase x) hn.2 fun z hz => (List.mem_erase_of_ne (fun e : z = x => hn.1 (by rw [← e]; exact hz))).2 (h z (by simp [hz]))
    rw [List.length_erase_of_mem hx] at this
    have := List.length_pos_of_mem hx
    simp only [List.length_cons]
    omega

/-- What is scheduled so far: slots, when the workers are free, the time. -/
structure CS where
  l : List Q4
  b : List Int
  t : Int
/-- One step: a slot, or the time goes on. -/
def compStep (ns ls : List Q4) (cs : List Int) (os : List Int) (st : CS) : CS :=
  bif nextI ls os st.l st.t == 0 || decide (freeI st.b st.t < 0) then ⟨st.l, st.b, laterS st.l st.t⟩
  else ⟨st.l ++ [(nextI ls os st.l st.t, freeI st.b st.t, st.t, st.t + at1 cs (placeI ns (nextI ls os st.l st.t)).toNat)], st.b.set (freeI st.b st.t).toNat (st.t + at1 cs (placeI ns (nextI ls os st.l st.t)).toNat), st.t⟩
def compN (ns ls : List Q4) (cs : List Int) (os : List Int) : Nat → CS → CS
  | 0, st => st
  | k + 1, st => bif decide (st.l.length < ns.length) then compN ns ls cs os k (compStep ns ls cs os st) else st
def compS (ns ls : List Q4) (cs : List Int) (wk : Nat) : List Q4 := (compN ns ls cs (orderS ns ls) (2 * ns.length) ⟨[], List.replicate wk 0, 0⟩).l

def future (l : List Q4) (t : Int) : Nat := l.countP fun s => decide (t < s.2.2.2)
def pot (ns : List Q4) (st : CS) : Nat := 2 * (ns.length - st.l.length) + future st.l st.t

/-- What the steps keep. -/
structure Run (ns ls : List Q4) (cs : List Int) (wk : Nat) (st : CS) : Prop where
  nd : (st.l.map (·.1)).Nodup
  sub : ∀ s ∈ st.l, s.1 ∈ ids ns
  len : st.l.length ≤ ns.length
  blen : st.b.length = wk
  ends : ∀ s ∈ st.l, 0 ≤ s.2.2.2 ∧ s.2.2.2 ≤ (st.l.length : Int) * 1099511627776
  time : 0 ≤ st.t ∧ st.t ≤ (st.l.length : Int) * 1099511627776
  busy : ∀ x ∈ st.b, x = 0 ∨ ∃ s ∈ st.l, s.2.2.2 = x

theorem fIx_none {α : Type} {p : α → Bool} : ∀ {xs : List α} {k : Int}, 0 ≤ k → (fIx p xs k < 0 ↔ ∀ x ∈ xs, p x = false)
  | [], k, hk => by simp [fIx]
  | z :: zs, k, hk => by
    unfold fIx
    cases hz : p z
    · simp only [cond_false, List.mem_cons, forall_eq_or_imp, hz, true_and]
      exact fIx_none (by omega)
    · simp only [cond_true, List.mem_cons, forall_eq_or_imp, hz]
      constructor
      · intro h; omega
      · intro h; cases h.1
theorem slot_none {l : List Q4} {i : Int} : slotI l i < 0 ↔ ∀ s ∈ l, s.1 ≠ i := by
  unfold slotI
  rw [fIx_none (Int.le_refl _)]
  simp
theorem fIx_some {α : Type} {p : α → Bool} : ∀ {xs : List α} {k : Int}, 0 ≤ k → 0 ≤ fIx p xs k → ∃ z, xs[(fIx p xs k - k).toNat]? = some z ∧ p z = true
  | [], k, hk, h => by simp [fIx] at h
  | z :: zs, k, hk, h => by
    unfold fIx at h ⊢
    cases hz : p z
    · rw [hz] at h
      simp only [cond_false] at h ⊢
      obtain ⟨y, h1, h2⟩ := fIx_some (p := p) (xs := zs) (k := k + 1) (by omega) h
      have hr := fIx_range (p := p) zs (k + 1)
      have : (fIx p zs (k + 1) - k).toNat = (fIx p zs (k + 1) - (k + 1)).toNat + 1 := by omega
      rw [this, List.getElem?_cons_succ]
      exact ⟨y, h1, h2⟩
    · simp only [cond_true, Int.sub_self]
      exact ⟨z, rfl, hz⟩
theorem slot_some {l : List Q4} {i : Int} (h : 0 ≤ slotI l i) : at0 l (slotI l i).toNat ∈ l ∧ (at0 l (slotI l i).toNat).1 = i := by
  unfold slotI at h
  obtain ⟨z, h1, h2⟩ := fIx_some (Int.le_refl _) h
  rw [Int.sub_zero] at h1
  have := at0_get (List.getElem?_eq_some_iff.1 h1).1
  change l[(slotI l i).toNat]? = some z at h1
  change l[(slotI l i).toNat]? = some (at0 l (slotI l i).toNat) at this
  rw [h1] at this
  cases this
  exact ⟨List.mem_of_getElem? h1, by simpa using h2⟩

/-- The least end behind the time. -/
theorem later_fold {t : Int} (ht : 0 ≤ t) : ∀ (l : List Q4) (o : Int), (o < 0 ∨ t < o) → ((∃ s ∈ l, t < s.2.2.2) ∨ t < o) →
    t < l.foldl (laterF t) o ∧ (l.foldl (laterF t) o = o ∨ ∃ s ∈ l, s.2.2.2 = l.foldl (laterF t) o)
  | [], o, h1, h2 => by
    rcases h2 with ⟨s, hs, _⟩ | h2
    · cases hs
    · exact ⟨h2, .inl rfl⟩
  | s :: l, o, h1, h2 => by
    rw [List.foldl_cons]
    by_cases hs : t < s.2.2.2
    · by_cases ho : o < 0 ∨ s.2.2.2 < o
      · have e : laterF t o s = s.2.2.2 := by
          unfold laterF
          rw [decide_eq_true hs]
          rcases ho with ho | ho
          · rw [decide_eq_true ho]; rfl
          · rw [decide_eq_true ho, Bool.or_true]; rfl
        rw [e]
        obtain ⟨h3, h4⟩ := later_fold ht l s.2.2.2 (.inr hs) (.inr hs)
        refine ⟨h3, .inr ?_⟩
        rcases h4 with h4 | ⟨y, hy, h4⟩
        · exact ⟨s, by simp, h4.symm⟩
        · exact ⟨y, by simp [hy], h4⟩
      · have e : laterF t o s = o := by
          unfold laterF
          rw [decide_eq_false (show ¬ o < 0 by omega), decide_eq_false (show ¬ s.2.2.2 < o by omega)]; simp
        rw [e]
        have hto : t < o := by omega
        obtain ⟨h3, h4⟩ := later_fold ht l o h1 (.inr hto)
        refine ⟨h3, ?_⟩
        rcases h4 with h4 | ⟨y, hy, h4⟩
        · exact .inl h4
        · exact .inr ⟨y, by simp [hy], h4⟩
    · have e : laterF t o s = o := by
        unfold laterF
        rw [decide_eq_false hs]; rfl
      rw [e]
      obtain ⟨h3, h4⟩ := later_fold ht l o h1 (by
        rcases h2 with ⟨y, hy, h5⟩ | h2
        · rcases List.mem_cons.1 hy with rfl | hy
          · exact absurd h5 hs
          · exact .inl ⟨y, hy, h5⟩
        · exact .inr h2)
      refine ⟨h3, ?_⟩
      rcases h4 with h4 | ⟨y, hy, h4⟩
      · exact .inl h4
      · exact .inr ⟨y, by simp [hy], h4⟩
theorem later_some {l : List Q4} {t : Int} (ht : 0 ≤ t) (h : ∃ s ∈ l, t < s.2.2.2) : t < laterS l t ∧ ∃ s ∈ l, s.2.2.2 = laterS l t := by
  obtain ⟨h1, h2⟩ := later_fold ht l (-1) (.inl (by omega)) (.inl h)
  refine ⟨h1, ?_⟩
  rcases h2 with h2 | h2
  · have : laterS l t = -1 := h2
    have h3 : t < laterS l t := h1
    omega
  · exact h2

theorem ready_spec {ls l : List Q4} {id t : Int} : readyS ls l id t = true ↔ ∀ k ∈ ls, k.2.2.1 = id → 0 ≤ slotI l k.1 ∧ (at0 l (slotI l k.1).toNat).2.2.2 ≤ t := by
  unfold readyS
  rw [List.all_eq_true]
  refine forall_congr' fun k => forall_congr' fun _ => ?_
  unfold badL
  by_cases he : k.2.2.1 = id
  · simp only [he, beq_self_eq_true, Bool.true_and, Bool.not_eq_true', Bool.or_eq_false_iff, decide_eq_false_iff_not, forall_const]
    omega
  · have : (k.2.2.1 == id) = false := beq_eq_false_iff_ne.2 he
    simp [this, he]

/-- While nodes are left, either a step gives one a slot, or some slot ends later. -/
theorem run_progress {ns ls : List Q4} {cs : List Int} {wk : Nat} {st : CS} (g : VG ns ls) (hw : 1 ≤ wk) (h : Run ns ls cs wk st) (hl : st.l.length < ns.length) (hs : nextI ls (orderS ns ls) st.l st.t = 0 ∨ freeI st.b st.t < 0) : ∃ s ∈ st.l, st.t < s.2.2.2 := by
  rcases hs with h0 | h0
  · -- the first node in order that has no slot waits for one that ends later
    have hgo := (good_order ls g.nd).1
    have hall : ∀ i ∈ orderS ns ls, okNext ls st.l st.t i = false := by
      unfold nextI at h0
      cases hf : (orderS ns ls).find? (okNext ls st.l st.t) with
      | none => intro i hi; simpa using List.find?_eq_none.1 hf i hi
      | some i =>
        rw [hf] at h0
        have hi := List.mem_of_find?_eq_some hf
        obtain ⟨z, hz, he⟩ := List.mem_map.1 (hgo.sub i hi)
        have := g.pos z hz
        simp only [Option.getD_some] at h0
        omega
    -- some node has no slot
    have hex : ∃ i ∈ orderS ns ls, slotI st.l i < 0 := by
      refine Classical.byContradiction fun hno => ?_
      have hin : ∀ i ∈ orderS ns ls, i ∈ st.l.map (·.1) := fun i hi => by
        have : ¬ slotI st.l i < 0 := fun e => hno ⟨i, hi, e⟩
        have := slot_some (l := st.l) (i := i) (by omega)
        exact List.mem_map.2 ⟨_, this.1, this.2⟩
      have hle : (orderS ns ls).length ≤ (st.l.map (·.1)).length := nodup_len_le hgo.nd hin
      rw [List.length_map] at hle
      have := g.full
      omega
    -- take the first
    have hfirst : ∀ (m : Nat) i, (orderS ns ls)[m]? = some i → slotI st.l i < 0 → ∃ k j, (orderS ns ls)[k]? = some j ∧ slotI st.l j < 0 ∧ ∀ x ∈ (orderS ns ls).take k, ¬ slotI st.l x < 0 := by
      intro m
      induction m using Nat.strongRecOn with
      | _ m ih =>
        intro i hm hi
        by_cases hp : ∀ x ∈ (orderS ns ls).take m, ¬ slotI st.l x < 0
        · exact ⟨m, i, hm, hi, hp⟩
        · simp only [Classical.not_forall] at hp
          obtain ⟨x, hx, hx2⟩ := hp
          obtain ⟨k, hk⟩ := List.getElem?_of_mem hx
          rw [List.getElem?_take] at hk
          split at hk
          · rename_i hkm
            exact ih k hkm x hk (Classical.not_not.1 hx2)
          · cases hk
    obtain ⟨i, hi, hi2⟩ := hex
    obtain ⟨m, hm⟩ := List.getElem?_of_mem hi
    obtain ⟨k, j, hk, hj, hpre⟩ := hfirst m i hm hi2
    have hok := hall j (List.mem_of_getElem? hk)
    unfold okNext at hok
    rw [decide_eq_true hj, Bool.true_and] at hok
    have hnr : ¬ readyS ls st.l j st.t = true := by rw [hok]; simp
    rw [ready_spec] at hnr
    simp only [Classical.not_forall] at hnr
    obtain ⟨y, hy, hyj, hbad⟩ := hnr
    have hpr := hgo.pre k j hk y hy hyj
    have hsl := hpre _ hpr
    have h2 := slot_some (l := st.l) (i := y.1) (by omega)
    refine ⟨_, h2.1, ?_⟩
    omega
  · -- no worker is free
    have := (fIx_none (p := fun z : Int => decide (z ≤ st.t)) (Int.le_refl 0)).1 h0
    have hb : 0 < st.b.length := by rw [h.blen]; omega
    obtain ⟨x, hx⟩ := List.exists_mem_of_length_pos hb
    have hx2 := this x hx
    simp only [decide_eq_false_iff_not] at hx2
    rcases h.busy x hx with rfl | ⟨s, hs, he⟩
    · have := h.time.1; omega
    · exact ⟨s, hs, by omega⟩
end Go.Proofs.Ytkejdfnpbkdllaa
