/- Plain laws of the graph: what is added to a valid graph leaves it valid; what is taken away, too. No program in sight. -/
import Derived.Test.YtkejdfnpbkdllaaG22q
set_option linter.unusedVariables false
set_option linter.unusedSimpArgs false
namespace Go.Proofs.Ytkejdfnpbkdllaa
open Go

theorem hasN_mem {ns : List Q4} {i : Int} : hasN ns i = true ↔ i ∈ ids ns := by
  unfold hasN look ids
  rw [List.find?_isSome]
  simp
theorem ports_ends {ns : List Q4} {l : Q4} (h : ports ns l = true) : l.1 ∈ ids ns ∧ l.2.2.1 ∈ ids ns := by
  unfold ports at h
  simp only [Bool.and_eq_true] at h
  exact ⟨hasN_mem.1 h.1.1.1.1.1, hasN_mem.1 h.1.1.1.1.2⟩
theorem VG.nd {ns ls : List Q4} (h : VG ns ls) : (ids ns).Nodup := ids_nodup h.asc
theorem VG.pos {ns ls : List Q4} (h : VG ns ls) : ∀ z ∈ ns, 1 ≤ z.1 := fun z hz => by
  have := h.fit z hz
  simp [fits] at this
  exact this.1.1
theorem VG.climbs {ns ls : List Q4} (h : VG ns ls) : Climbs ls := full_climbs h.nd (fun l hl => (ports_ends (h.port l hl)).2) h.full

theorem insN_mem {ns : List Q4} {n z : Q4} : z ∈ insN ns n ↔ z = n ∨ z ∈ ns := by
  induction ns with
  | nil => simp [insN]
  | cons y ys ih =>
    unfold insN
    cases decide (y.1 < n.1)
    · simp
    · simp only [cond_true, List.mem_cons, ih]
      constructor
      · rintro (h | h | h) <;> simp [h]
      · rintro (h | h | h) <;> simp [h]
theorem insN_len {ns : List Q4} {n : Q4} : (insN ns n).length = ns.length + 1 := by
  induction ns with
  | nil => rfl
  | cons y ys ih =>
    unfold insN
    cases decide (y.1 < n.1)
    · rfl
    · simp [ih]
theorem insN_asc {ns : List Q4} {n : Q4} (h : ns.Pairwise fun x y => x.1 < y.1) (hn : n.1 ∉ ids ns) : (insN ns n).Pairwise fun x y => x.1 < y.1 := by
  induction ns with
  | nil => simp [insN]
  | cons y ys ih =>
    rw [List.pairwise_cons] at h
    unfold ids at hn
    simp only [List.map_cons, List.mem_cons, not_or] at hn
    unfold insN
    cases hd : decide (y.1 < n.1)
    · simp only [decide_eq_false_iff_not] at hd
      simp only [cond_false]
      rw [List.pairwise_cons]
      refine ⟨fun z hz => ?_, List.pairwise_cons.2 h⟩
      rcases List.mem_cons.1 hz with rfl | hz
      · have := hn.1; omega
      · have := h.1 z hz; have := hn.1; omega
    · simp only [decide_eq_true_eq] at hd
      simp only [cond_true]
      rw [List.pairwise_cons]
      refine ⟨fun z hz => ?_, ih h.2 hn.2⟩
      rcases insN_mem.1 hz with rfl | hz
      · exact hd
      · exact h.1 z hz
theorem look_insN {ns : List Q4} {n : Q4} {i : Int} (h : i ≠ n.1) : look (insN ns n) i = look ns i := by
  have hne : (n.1 == i) = false := beq_eq_false_iff_ne.2 (Ne.symm h)
  induction ns with
  | nil => unfold insN look; rw [List.find?_cons, hne]
  | cons y ys ih =>
    unfold insN
    cases decide (y.1 < n.1)
    · simp only [cond_false]
      unfold look
      rw [List.find?_cons, hne]
    · simp only [cond_true]
      unfold look at ih ⊢
      rw [List.find?_cons, List.find?_cons, ih]
theorem ports_look {ns ms : List Q4} {l : Q4} (h1 : look ms l.1 = look ns l.1) (h2 : look ms l.2.2.1 = look ns l.2.2.1) : ports ms l = ports ns l := by unfold ports hasN nodeD; rw [h1, h2]
theorem clash_look {ns ms : List Q4} {x l : Q4} (h1 : look ms l.1 = look ns l.1) (h2 : look ms l.2.2.1 = look ns l.2.2.1) : clash ms x l = clash ns x l := by unfold clash nodeD; rw [h1, h2]

theorem add_valid {ns ls : List Q4} {n : Q4} (h : addErr ns ls n = 0) : validS (insN ns n) ls = true := by
  unfold addErr at h
  cases hv : validS ns ls
  · rw [hv] at h; cases h
  cases hf : fits n
  · rw [hv, hf] at h; cases h
  cases hh : hasN ns n.1
  rotate_left
  · rw [hv, hf, hh] at h; cases h
  rw [hv, hf, hh] at h
  have hlt : ns.length < 64 := by
    refine Classical.byContradiction fun hno => ?_
    rw [decide_eq_true (show 64 ≤ (ns.length : Int) by omega)] at h
    cases h
  have g := (valid_iff ns ls).1 hv
  have hni : n.1 ∉ ids ns := fun e => by rw [hasN_mem.2 e] at hh; cases hh
  have hlk : ∀ l ∈ ls, look (insN ns n) l.1 = look ns l.1 ∧ look (insN ns n) l.2.2.1 = look ns l.2.2.1 := fun l hl => by
    have := ports_ends (g.port l hl)
    exact ⟨look_insN fun e => hni (e ▸ this.1), look_insN fun e => hni (e ▸ this.2)⟩
  have hport : ∀ l ∈ ls, ports (insN ns n) l = true := fun l hl => by rw [ports_look (hlk l hl).1 (hlk l hl).2]; exact g.port l hl
  have hfit : ∀ z ∈ insN ns n, fits z = true := fun z hz => by
    rcases insN_mem.1 hz with rfl | hz
    · exact hf
    · exact g.fit z hz
  have hasc := insN_asc g.asc hni
  refine (valid_iff _ _).2 ⟨by rw [insN_len]; omega, g.l256, hfit, hasc, hport, g.inc, ?_, ?_⟩
  · refine g.sep.imp_of_mem fun {x y} hx hy hc => ?_
    rw [clash_look (hlk y hy).1 (hlk y hy).2]; exact hc
  · refine climbs_full (ids_nodup hasc) (fun z hz => ?_) (fun l hl => (ports_ends (hport l hl)).1) g.climbs
    have := hfit z hz
    simp [fits] at this
    exact this.1.1

theorem insL_mem {ls : List Q4} {n z : Q4} : z ∈ insL ls n ↔ z = n ∨ z ∈ ls := by
  induction ls with
  | nil => simp [insL]
  | cons y ys ih =>
    unfold insL
    cases less y n
    · simp
    · simp only [cond_true, List.mem_cons, ih]
      constructor
      · rintro (h | h | h) <;> simp [h]
      · rintro (h | h | h) <;> simp [h]
theorem insL_len {ls : List Q4} {n : Q4} : (insL ls n).length = ls.length + 1 := by
  induction ls with
  | nil => rfl
  | cons y ys ih =>
    unfold insL
    cases less y n
    · rfl
    · simp [ih]
theorem insL_pw {ls : List Q4} {n : Q4} {r : Q4 → Q4 → Prop} (h : ls.Pairwise r) (h1 : ∀ x ∈ ls, less x n = true → r x n) (h2 : ∀ x ∈ ls, less x n = false → r n x) (h3 : ls.Pairwise fun x y => less x y = true) (hn : n ∉ ls) : (insL ls n).Pairwise r := by
  induction ls with
  | nil => simp [insL]
  | cons y ys ih =>
    rw [List.pairwise_cons] at h h3
    simp only [List.mem_cons, not_or] at hn
    unfold insL
    cases hd : less y n
    · simp only [cond_false]
      rw [List.pairwise_cons]
      refine ⟨fun z hz => ?_, List.pairwise_cons.2 h⟩
      have hyn : less n y = true := less_total hd (Ne.symm hn.1)
      rcases List.mem_cons.1 hz with rfl | hz'
      · exact h2 _ (by simp) hd
      · refine h2 z (by simp [hz']) ?_
        have := less_trans _ _ _ hyn (h3.1 z hz')
        rw [← Bool.not_eq_true]
        intro e
        have := less_trans _ _ _ e this
        rw [less_irrefl] at this
        cases this
    · simp only [cond_true]
      rw [List.pairwise_cons]
      refine ⟨fun z hz => ?_, ih h.2 (fun x hx => h1 x (by simp [hx])) (fun x hx => h2 x (by simp [hx])) h3.2 hn.2⟩
      rcases insL_mem.1 hz with rfl | hz
      · exact h1 y (by simp) hd
      · exact h.1 z hz
theorem clash_symm (ns : List Q4) (x y : Q4) : clash ns x y = clash ns y x := by
  unfold clash
  by_cases h1 : x.2.2.1 = y.2.2.1
  · by_cases h2 : x.1 = y.1
    · rw [h1, h2]
      rw [Bool.beq_comm (a := x.2.2.2), Bool.beq_comm (a := x.2.1)]
    · have e1 : (x.1 == y.1) = false := beq_eq_false_iff_ne.2 h2
      have e2 : (y.1 == x.1) = false := beq_eq_false_iff_ne.2 (Ne.symm h2)
      rw [h1, e1, e2, Bool.beq_comm (a := x.2.2.2)]; simp
  · have e1 : (x.2.2.1 == y.2.2.1) = false := beq_eq_false_iff_ne.2 h1
    have e2 : (y.2.2.1 == x.2.2.1) = false := beq_eq_false_iff_ne.2 (Ne.symm h1)
    by_cases h2 : x.1 = y.1
    · rw [h2, e1, e2, Bool.beq_comm (a := x.2.1)]; simp
    · have e3 : (x.1 == y.1) = false := beq_eq_false_iff_ne.2 h2
      have e4 : (y.1 == x.1) = false := beq_eq_false_iff_ne.2 (Ne.symm h2)
      rw [e1, e2, e3, e4]; simp

theorem con_valid {ns ls : List Q4} {l : Q4} (h : conErr ns ls l = 0) : validS ns (insL ls l) = true := by
  unfold conErr at h
  cases hv : validS ns ls
  · rw [hv] at h; cases h
  cases hp : ports ns l
  · rw [hv, hp] at h; cases h
  cases hh : ls.contains l
  rotate_left
  · rw [hv, hp, hh] at h; cases h
  rw [hv, hp, hh] at h
  cases h256 : decide (256 ≤ (ls.length : Int))
  rotate_left
  · rw [h256] at h; cases h
  cases hc : crowded ns l ls
  rotate_left
  · rw [h256, hc] at h; cases h
  cases ho : decide (((orderS ns (insL ls l)).length : Int) < (ns.length : Int))
  rotate_left
  · rw [h256, hc, ho] at h; cases h
  have g := (valid_iff ns ls).1 hv
  have hl : l ∉ ls := by simpa using hh
  have hcl : ∀ x ∈ ls, clash ns x l = false := fun x hx => by
    unfold crowded at hc
    rw [List.any_eq_false] at hc
    simpa using hc x hx
  refine (valid_iff _ _).2 ⟨g.n64, ?_, g.fit, g.asc, fun x hx => ?_, ?_, ?_, ?_⟩
  · rw [insL_len]; simp at h256; omega
  · rcases insL_mem.1 hx with rfl | hx
    · exact hp
    · exact g.port x hx
  · exact insL_pw g.inc (fun x hx e => e) (fun x hx e => less_total e (fun e2 => hl (e2 ▸ hx))) g.inc hl
  · exact insL_pw g.sep (fun x hx e => hcl x hx) (fun x hx e => by rw [clash_symm]; exact hcl x hx) g.inc hl
  · have := (good_order (insL ls l) g.nd).1.cnt
    simp at ho
    omega

/-- Part of the links. -/
theorem VG.fewer {ns ls ks : List Q4} (g : VG ns ls) (h : ks.Sublist ls) : VG ns ks :=
  ⟨g.n64, Nat.le_trans h.length_le g.l256, g.fit, g.asc, fun l hl => g.port l (h.subset hl), g.inc.sublist h, g.sep.sublist h,
    climbs_full g.nd g.pos (fun l hl => (ports_ends (g.port l (h.subset hl))).1) (by
      obtain ⟨r, hr⟩ := g.climbs
      exact ⟨r, fun l hl => hr l (h.subset hl)⟩)⟩
end Go.Proofs.Ytkejdfnpbkdllaa
