/- Plain laws of the longest path: what it is, told without the fold. No program in sight. -/
import Derived.Test.YtkejdfnpbkdllaaSch3
set_option linter.unusedVariables false
set_option linter.unusedSimpArgs false
namespace Go.Proofs.Ytkejdfnpbkdllaa
open Go

def cI (ns : List Q4) (cs : List Int) (i : Int) : Int := at1 cs (placeI ns i).toNat
theorem maxI_le {p q X : Int} : maxI p q ≤ X ↔ p ≤ X ∧ q ≤ X := by unfold maxI; split <;> omega
theorem bef_fold {ns : List Q4} {sums : List Int} {id : Int} : ∀ (ls : List Q4) (b : Int), b ≤ ls.foldl (befF ns sums id) b ∧ (∀ k ∈ ls, k.2.2.1 = id → at1 sums (placeI ns k.1).toNat ≤ ls.foldl (befF ns sums id) b) ∧ (∀ X, b ≤ X → (∀ k ∈ ls, k.2.2.1 = id → at1 sums (placeI ns k.1).toNat ≤ X) → ls.foldl (befF ns sums id) b ≤ X)
  | [], b => ⟨Int.le_refl _, by simp, fun X h _ => h⟩
  | k :: ls, b => by
    rw [List.foldl_cons]
    obtain ⟨h1, h2, h3⟩ := bef_fold (ns := ns) (sums := sums) (id := id) ls (befF ns sums id b k)
    by_cases he : k.2.2.1 = id
    · have e : befF ns sums id b k = maxI b (at1 sums (placeI ns k.1).toNat) := by unfold befF; rw [beq_iff_eq.2 he]; rfl
      rw [e] at h1 h2 h3 ⊢
      have hm := (maxI_le (p := b) (q := at1 sums (placeI ns k.1).toNat)).1 (Int.le_refl _)
      refine ⟨by omega, fun y hy hyi => ?_, fun X hb hX => h3 X (maxI_le.2 ⟨hb, hX k (by simp) he⟩) fun y hy => hX y (by simp [hy])⟩
      rcases List.mem_cons.1 hy with rfl | hy
      · omega
      · exact h2 y hy hyi
    · have e : befF ns sums id b k = b := by unfold befF; rw [beq_eq_false_iff_ne.2 he]; rfl
      rw [e] at h1 h2 h3 ⊢
      refine ⟨h1, fun y hy hyi => ?_, fun X hb hX => h3 X hb fun y hy => hX y (by simp [hy])⟩
      rcases List.mem_cons.1 hy with rfl | hy
      · exact absurd hyi he
      · exact h2 y hy hyi
theorem bef_congr {ns ls : List Q4} {s1 s2 : List Int} {id : Int} (h : ∀ k ∈ ls, k.2.2.1 = id → at1 s1 (placeI ns k.1).toNat = at1 s2 (placeI ns k.1).toNat) : befS ns ls s1 id = befS ns ls s2 id := by
  obtain ⟨a1, a2, a3⟩ := bef_fold (ns := ns) (sums := s1) (id := id) ls 0
  obtain ⟨b1, b2, b3⟩ := bef_fold (ns := ns) (sums := s2) (id := id) ls 0
  exact Int.le_antisymm (a3 _ b1 fun k hk he => by rw [h k hk he]; exact b2 k hk he) (b3 _ a1 fun k hk he => by rw [← h k hk he]; exact a2 k hk he)

/-- What the fold has reckoned after k nodes. -/
structure CK (ns ls : List Q4) (cs : List Int) (k : Nat) (st : List Int × Int) : Prop where
  len : st.1.length = ns.length
  eq : ∀ j, j < k → ∀ z, (orderS ns ls)[j]? = some z → at1 st.1 (placeI ns z).toNat = befS ns ls st.1 z + cI ns cs z
  le : ∀ j, j < k → ∀ z, (orderS ns ls)[j]? = some z → at1 st.1 (placeI ns z).toNat ≤ st.2
  pos : 0 ≤ st.2
  least : ∀ Y, 0 ≤ Y → (∀ j, j < k → ∀ z, (orderS ns ls)[j]? = some z → at1 st.1 (placeI ns z).toNat ≤ Y) → st.2 ≤ Y
theorem pre_pos {ns ls : List Q4} (hg : Good ns ls (orderS ns ls)) {j : Nat} {z : Int} (hz : (orderS ns ls)[j]? = some z) {l : Q4} (hl : l ∈ ls) (he : l.2.2.1 = z) : ∃ i, i < j ∧ (orderS ns ls)[i]? = some l.1 := by
  have hp := hg.pre j z hz l hl he
  obtain ⟨i, hi⟩ := List.getElem?_of_mem hp
  rw [List.getElem?_take] at hi
  split at hi
  · rename_i hij; exact ⟨i, hij, hi⟩
  · cases hi
theorem ord_ne {ns ls : List Q4} (hg : Good ns ls (orderS ns ls)) {i j : Nat} {y z : Int} (hi : (orderS ns ls)[i]? = some y) (hj : (orderS ns ls)[j]? = some z) (hij : i < j) : (placeI ns z).toNat ≠ (placeI ns y).toNat := by
  have h1 := List.getElem?_eq_some_iff.1 hi
  have h2 := List.getElem?_eq_some_iff.1 hj
  have hne := List.pairwise_iff_getElem.1 hg.nd i j h1.1 h2.1 hij
  rw [h1.2, h2.2] at hne
  have p1 := place_in (hg.sub y (List.mem_of_getElem? hi))
  have p2 := place_in (hg.sub z (List.mem_of_getElem? hj))
  exact fun e => hne (place_inj (ns := ns) p1.1 (by omega))
theorem CK.step {ns ls : List Q4} {cs : List Int} {k : Nat} {st : List Int × Int} {z : Int} (hg : Good ns ls (orderS ns ls)) (h : CK ns ls cs k st) (hz : (orderS ns ls)[k]? = some z) : CK ns ls cs (k + 1) (critF ns ls cs st z) := by
  have hzp := place_in (hg.sub z (List.mem_of_getElem? hz))
  have hlt : (placeI ns z).toNat < st.1.length := by rw [h.len]; omega
  have hv : at1 (critF ns ls cs st z).1 (placeI ns z).toNat = befS ns ls st.1 z + cI ns cs z := by
    show at1 (st.1.set _ _) _ = _
    rw [at1_set hlt, if_pos rfl]; rfl
  have hold : ∀ j, j < k → ∀ y, (orderS ns ls)[j]? = some y → at1 (critF ns ls cs st z).1 (placeI ns y).toNat = at1 st.1 (placeI ns y).toNat := fun j hj y hy => by
    show at1 (st.1.set _ _) _ = _
    rw [at1_set hlt, if_neg (ord_ne hg hy hz hj)]
  have hbef : ∀ j, j ≤ k → ∀ y, (orderS ns ls)[j]? = some y → befS ns ls (critF ns ls cs st z).1 y = befS ns ls st.1 y := fun j hj y hy => bef_congr fun l hl he => by
    obtain ⟨i, hi, hi2⟩ := pre_pos hg hy hl he
    exact hold i (by omega) _ hi2
  have hm : (critF ns ls cs st z).2 = maxI st.2 (befS ns ls st.1 z + cI ns cs z) := rfl
  have hmm := (maxI_le (p := st.2) (q := befS ns ls st.1 z + cI ns cs z)).1 (Int.le_refl _)
  have hpos := h.pos
  refine ⟨?_, fun j hj y hy => ?_, fun j hj y hy => ?_, ?_, fun Y hY hall => ?_⟩
  · show (st.1.set _ _).length = _
    rw [List.length_set]; exact h.len
  · by_cases hjk : j = k
    · subst hjk
      rw [hz] at hy
      cases hy
      rw [hv, hbef j (Nat.le_refl _) z hz]
    · rw [hold j (by omega) y hy, hbef j (by omega) y hy]
      exact h.eq j (by omega) y hy
  · rw [hm]
    by_cases hjk : j = k
    · subst hjk
      rw [hz] at hy
      cases hy
      rw [hv]
      omega
    · rw [hold j (by omega) y hy]
      have := h.le j (by omega) y hy
      omega
  · rw [hm]; omega
  · rw [hm]
    refine maxI_le.2 ⟨h.least Y hY fun j hj y hy => ?_, ?_⟩
    · rw [← hold j hj y hy]
      exact hall j (by omega) y hy
    · rw [← hv]
      exact hall k (by omega) z hz
theorem CK.run {ns ls : List Q4} {cs : List Int} (hg : Good ns ls (orderS ns ls)) : ∀ k, k ≤ (orderS ns ls).length → CK ns ls cs k (((orderS ns ls).take k).foldl (critF ns ls cs) (List.replicate ns.length 0, 0))
  | 0, _ => ⟨by simp, fun j hj => absurd hj (Nat.not_lt_zero j), fun j hj => absurd hj (Nat.not_lt_zero j), by simp, fun Y hY _ => by simpa using hY⟩
  | k + 1, hk => by
    obtain ⟨z, hz⟩ := get_of (xs := orderS ns ls) (k := k) (by omega)
    have ih := CK.run hg (cs := cs) k (by omega)
    rw [List.take_add_one, hz, List.foldl_append]
    exact ih.step hg hz

/-- Longest paths: L i is the greatest sum of costs along a path that ends with i; m is the greatest of all. -/
structure LongP (ns ls : List Q4) (cs : List Int) (L : Int → Int) (m : Int) : Prop where
  link : ∀ k ∈ ls, L k.1 + cI ns cs k.2.2.1 ≤ L k.2.2.1
  own : ∀ i ∈ ids ns, cI ns cs i ≤ L i
  up : ∀ i ∈ ids ns, ∀ X, 0 ≤ X → (∀ k ∈ ls, k.2.2.1 = i → L k.1 ≤ X) → L i ≤ X + cI ns cs i
  le : ∀ i ∈ ids ns, L i ≤ m
  pos : 0 ≤ m
  least : ∀ Y, 0 ≤ Y → (∀ i ∈ ids ns, L i ≤ Y) → m ≤ Y
theorem ord_mem {ns ls : List Q4} (g : VG ns ls) : ∀ i ∈ ids ns, ∃ j : Nat, (orderS ns ls)[j]? = some i := fun i hi => by
  have hgo := (good_order ls g.nd).1
  have hle : ∀ y ∈ ids ns, y ∈ orderS ns ls := by
    intro y hy
    refine Classical.byContradiction fun hn => ?_
    have h1 : (y :: orderS ns ls).Nodup := List.nodup_cons.2 ⟨hn, hgo.nd⟩
    have := nodup_len_le h1 (ys := ids ns) (fun z hz => by
      rcases List.mem_cons.1 hz with rfl | hz
      · exact hy
      · exact hgo.sub z hz)
    have h2 := g.full
    have h3 : (ids ns).length = ns.length := List.length_map ..
    simp only [List.length_cons] at this
    omega
  exact List.getElem?_of_mem (hle i hi)
theorem long_of {ns ls : List Q4} {cs : List Int} (hp : problemS ns ls cs 1 = true) : ∃ L, LongP ns ls cs L (critS ns ls cs) := by
  have hpo := prob_of hp
  have g := (valid_iff ns ls).1 hpo.1
  have hgo := (good_order ls g.nd).1
  have h := CK.run (ns := ns) (ls := ls) (cs := cs) hgo _ (Nat.le_refl _)
  rw [List.take_length] at h
  have hc : critS ns ls cs = ((orderS ns ls).foldl (critF ns ls cs) (List.replicate ns.length 0, 0)).2 := by unfold critS; rw [hp]; rfl
  rw [hc]
  generalize (orderS ns ls).foldl (critF ns ls cs) (List.replicate ns.length 0, 0) = st at h
  have lt : ∀ {j : Nat} {z : Int}, (orderS ns ls)[j]? = some z → j < (orderS ns ls).length := fun hz => (List.getElem?_eq_some_iff.1 hz).1
  refine ⟨fun i => at1 st.1 (placeI ns i).toNat, ?_, ?_, ?_, ?_, h.pos, ?_⟩
  · intro k hk
    obtain ⟨j, hj⟩ := ord_mem g k.2.2.1 (ports_ends (g.port k hk)).2
    have := (bef_fold (ns := ns) (sums := st.1) (id := k.2.2.1) ls 0).2.1 k hk rfl
    have e := h.eq j (lt hj) _ hj
    show at1 st.1 (placeI ns k.1).toNat + cI ns cs k.2.2.1 ≤ at1 st.1 (placeI ns k.2.2.1).toNat
    rw [e]
    show _ ≤ ls.foldl (befF ns st.1 k.2.2.1) 0 + _
    omega
  · intro i hi
    obtain ⟨j, hj⟩ := ord_mem g i hi
    have := (bef_fold (ns := ns) (sums := st.1) (id := i) ls 0).1
    have e := h.eq j (lt hj) _ hj
    show cI ns cs i ≤ at1 st.1 (placeI ns i).toNat
    rw [e]
    show _ ≤ ls.foldl (befF ns st.1 i) 0 + _
    omega
  · intro i hi X hX hall
    obtain ⟨j, hj⟩ := ord_mem g i hi
    have := (bef_fold (ns := ns) (sums := st.1) (id := i) ls 0).2.2 X hX hall
    have e := h.eq j (lt hj) _ hj
    show at1 st.1 (placeI ns i).toNat ≤ X + cI ns cs i
    rw [e]
    show ls.foldl (befF ns st.1 i) 0 + _ ≤ _
    omega
  · intro i hi
    obtain ⟨j, hj⟩ := ord_mem g i hi
    exact h.le j (lt hj) _ hj
  · intro Y hY hall
    refine h.least Y hY fun j hj z hz => hall z (hgo.sub z (List.mem_of_getElem? hz))
end Go.Proofs.Ytkejdfnpbkdllaa
