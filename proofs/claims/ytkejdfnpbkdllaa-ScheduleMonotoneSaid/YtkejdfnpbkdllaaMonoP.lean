/- Plain laws: the bound does not grow if less is to do. No program in sight. -/
import Derived.Test.YtkejdfnpbkdllaaGrahP
set_option linter.unusedVariables false
set_option linter.unusedSimpArgs false
namespace Go.Proofs.Ytkejdfnpbkdllaa
open Go Go.RowKit Go.Proofs.YtkejdfnpbkdllaaV

def remN (ns : List Q4) (i : Int) : List Q4 := ns.filter fun z => z.1 != i
def remL (ls : List Q4) (i : Int) : List Q4 := ls.filter fun l => l.1 != i && l.2.2.1 != i
def disL (ls : List Q4) (l : Q4) : List Q4 := ls.filter fun x => x != l
theorem look_rem {ns : List Q4} {i j : Int} (h : j ≠ i) : look (remN ns i) j = look ns j := by
  unfold look remN
  rw [List.find?_filter]
  congr 1
  funext z
  by_cases e : z.1 = j
  · have : (z.1 != i) = true := by rw [e]; exact bne_iff_ne.2 h
    rw [this, Bool.eq_iff_iff]; simp
  · rw [beq_eq_false_iff_ne.2 e]; simp
theorem mem_remL {ls : List Q4} {i : Int} {l : Q4} : l ∈ remL ls i ↔ l ∈ ls ∧ l.1 ≠ i ∧ l.2.2.1 ≠ i := by
  unfold remL
  rw [List.mem_filter, Bool.and_eq_true, bne_iff_ne, bne_iff_ne]
theorem VG.remove {ns ls : List Q4} (g : VG ns ls) (i : Int) : VG (remN ns i) (remL ls i) := by
  have hsub : (remN ns i).Sublist ns := List.filter_sublist
  have hsubL : (remL ls i).Sublist ls := List.filter_sublist
  have hport : ∀ l ∈ remL ls i, ports (remN ns i) l = true := fun l hl => by
    obtain ⟨h1, h2, h3⟩ := mem_remL.1 hl
    have := g.port l h1
    unfold ports hasN nodeD at this ⊢
    rw [look_rem h2, look_rem h3]
    exact this
  have hasc := g.asc.sublist hsub
  have hpos : ∀ z ∈ remN ns i, 1 ≤ z.1 := fun z hz => g.pos z (hsub.subset hz)
  refine ⟨Nat.le_trans hsub.length_le g.n64, Nat.le_trans hsubL.length_le g.l256, fun z hz => g.fit z (hsub.subset hz), hasc, hport, g.inc.sublist hsubL, ?_, ?_⟩
  · refine (g.sep.sublist hsubL).imp_of_mem fun {x y} hx hy h => ?_
    obtain ⟨_, x2, x3⟩ := mem_remL.1 hx
    obtain ⟨_, y2, y3⟩ := mem_remL.1 hy
    unfold clash nodeD at h ⊢
    rw [look_rem y2, look_rem y3]
    exact h
  · refine climbs_full (ids_nodup hasc) hpos (fun l hl => (ports_ends (hport l hl)).1) ?_
    obtain ⟨r, hr⟩ := g.climbs
    exact ⟨r, fun l hl => hr l (hsubL.subset hl)⟩
theorem mem_ids_rem {ns : List Q4} {i j : Int} : j ∈ ids (remN ns i) ↔ j ∈ ids ns ∧ j ≠ i := by
  unfold ids remN
  rw [List.mem_map, List.mem_map]
  constructor
  · rintro ⟨z, hz, rfl⟩
    rw [List.mem_filter, bne_iff_ne] at hz
    exact ⟨⟨z, hz.1, rfl⟩, hz.2⟩
  · rintro ⟨⟨z, hz, rfl⟩, h⟩
    exact ⟨z, List.mem_filter.2 ⟨hz, bne_iff_ne.2 h⟩, rfl⟩
theorem rem_erase {ns : List Q4} (hn : (ids ns).Nodup) {k : Nat} {y : Q4} (hy : ns[k]? = some y) : remN ns y.1 = ns.eraseIdx k := by
  have hlt := (List.getElem?_eq_some_iff.1 hy).1
  have e1 : ns = ns.take k ++ y :: ns.drop (k + 1) := by rw [← drop_of hy, List.take_append_drop]
  rw [List.eraseIdx_eq_take_drop_succ]
  have hn2 : ((ns.take k ++ y :: ns.drop (k + 1)).map (·.1)).Nodup := by rw [← e1]; exact hn
  rw [List.map_append, List.map_cons, List.nodup_append] at hn2
  obtain ⟨_, h2, h3⟩ := hn2
  rw [List.nodup_cons] at h2
  have f1 : (ns.take k).filter (fun z => z.1 != y.1) = ns.take k := List.filter_eq_self.2 fun z hz => bne_iff_ne.2 (h3 z.1 (List.mem_map.2 ⟨z, hz, rfl⟩) y.1 (by simp))
  have f2 : (ns.drop (k + 1)).filter (fun z => z.1 != y.1) = ns.drop (k + 1) := List.filter_eq_self.2 fun z hz => bne_iff_ne.2 fun e => h2.1 (e ▸ List.mem_map.2 ⟨z, hz, rfl⟩)
  unfold remN
  conv => lhs; rw [e1]
  rw [List.filter_append, List.filter_cons, f1, f2]
  simp
theorem at1_erase {cs : List Int} {k j : Nat} : at1 (cs.eraseIdx k) j = if j < k then at1 cs j else at1 cs (j + 1) := by
  unfold at1
  rw [List.getD_eq_getElem?_getD, List.getElem?_eraseIdx]
  split <;> rw [List.getD_eq_getElem?_getD]
theorem cI_rem {ns : List Q4} {cs : List Int} (hn : (ids ns).Nodup) {k : Nat} {y : Q4} (hy : ns[k]? = some y) {j : Int} (hj : j ∈ ids (remN ns y.1)) : cI (remN ns y.1) (cs.eraseIdx k) j = cI ns cs j := by
  have hn' : (ids (remN ns y.1)).Nodup := by
    unfold ids remN
    exact hn.sublist (List.filter_sublist.map _)
  obtain ⟨z, hz, rfl⟩ := List.mem_map.1 hj
  obtain ⟨m, hm⟩ := List.getElem?_of_mem hz
  have p1 := place_at hn' hm
  unfold cI
  rw [p1]
  rw [rem_erase hn hy, List.getElem?_eraseIdx] at hm
  have e0 : ((m : Int)).toNat = m := by omega
  rw [e0, at1_erase]
  split
  · rename_i h
    rw [if_pos h] at hm
    rw [place_at hn hm, e0]
  · rename_i h
    rw [if_neg h] at hm
    rw [place_at hn hm]
    congr 1
theorem isum_cut {cs : List Int} {k : Nat} (hk : k < cs.length) : isum cs = at1 cs k + isum (cs.take k ++ cs.drop (k + 1)) := by
  have e1 : cs = cs.take k ++ at1 cs k :: cs.drop (k + 1) := by rw [← drop_of (at1_get hk), List.take_append_drop]
  conv => lhs; rw [e1]
  rw [isum_append, isum_append]
  have : isum (at1 cs k :: cs.drop (k + 1)) = at1 cs k + isum (cs.drop (k + 1)) := rfl
  omega
theorem isum_set {v : Int} : ∀ {cs : List Int} {k : Nat}, k < cs.length → isum (cs.set k v) = isum cs - at1 cs k + v
  | [], k, h => by simp at h
  | c :: cs, 0, _ => by rw [List.set_cons_zero]; unfold isum; have : at1 (c :: cs) 0 = c := rfl; omega
  | c :: cs, k + 1, h => by
    rw [List.set_cons_succ]
    have e : at1 (c :: cs) (k + 1) = at1 cs k := rfl
    have := isum_set (v := v) (cs := cs) (k := k) (by simpa using h)
    unfold isum
    omega
theorem crit_mono {ns ls ns' ls' : List Q4} {cs cs' : List Int} (hp : problemS ns ls cs 1 = true) (hp' : problemS ns' ls' cs' 1 = true) (hN : ∀ i ∈ ids ns', i ∈ ids ns) (hK : ∀ l ∈ ls', l ∈ ls) (hC : ∀ i ∈ ids ns', cI ns' cs' i ≤ cI ns cs i) : critS ns' ls' cs' ≤ critS ns ls cs := by
  obtain ⟨L, hL⟩ := long_of hp
  obtain ⟨M, hM⟩ := long_of hp'
  have g := (valid_iff ns' ls').1 (prob_of hp').1
  have hgo := (good_order ls' g.nd).1
  have hc0 : ∀ i, 0 ≤ cI ns cs i := fun i => (at1_bound (k := (placeI ns i).toNat) (prob_of hp).2.2.2.2 (by omega)).1
  have key : ∀ (j : Nat) (i : Int), (orderS ns' ls')[j]? = some i → M i ≤ L i := by
    intro j
    induction j using Nat.strongRecOn with
    | _ j ih =>
      intro i hi
      have him := hgo.sub i (List.mem_of_getElem? hi)
      have h1 := hL.own i (hN i him)
      have h2 := hM.up i him (L i - cI ns cs i) (by omega) fun k hk hki => by
        obtain ⟨q, hq, hq2⟩ := pre_pos hgo hi hk hki
        have h3 := ih q hq k.1 hq2
        have h4 := hL.link k (hK k hk)
        rw [hki] at h4
        omega
      have h5 := hC i him
      omega
  refine hM.least _ hL.pos fun i hi => ?_
  obtain ⟨j, hj⟩ := ord_mem g i hi
  have h1 := key j i hj
  have h2 := hL.le i (hN i hi)
  omega
theorem bound_mono {ns ls ns' ls' : List Q4} {cs cs' : List Int} {wk : Int} (hp : problemS ns ls cs wk = true) (hp' : problemS ns' ls' cs' wk = true) (hN : ∀ i ∈ ids ns', i ∈ ids ns) (hK : ∀ l ∈ ls', l ∈ ls) (hC : ∀ i ∈ ids ns', cI ns' cs' i ≤ cI ns cs i) (hS : isum cs' ≤ isum cs) : boundS ns' ls' cs' wk ≤ boundS ns ls cs wk := by
  have hpo := prob_of hp
  have h1 := crit_mono (prob_one hp) (prob_one hp') hN hK hC
  have h2 := Int.mul_le_mul_of_nonneg_left h1 (show 0 ≤ wk - 1 by omega)
  unfold boundS
  rw [hp, hp', cond_true, cond_true, sumS_isum, sumS_isum]
  exact Int.ediv_le_ediv (by omega) (by omega)
theorem prob_mk {ns ls : List Q4} {cs : List Int} {wk : Int} (g : VG ns ls) (hl : cs.length = ns.length) (hw : 1 ≤ wk ∧ wk ≤ 8) (hc : ∀ c ∈ cs, 0 ≤ c ∧ c ≤ 1099511627776) : problemS ns ls cs wk = true := by
  refine prob_yes ((valid_iff ns ls).2 g) (by rw [hl]; exact beq_self_eq_true _) hw.1 hw.2 ?_
  rw [List.all_eq_true]
  intro c h
  have := hc c h
  unfold costB
  simp only [Bool.and_eq_true, decide_eq_true_eq]
  omega
theorem bound_lower {ns ls : List Q4} {cs : List Int} {wk v : Int} {k : Nat} (hp : problemS ns ls cs wk = true) (hk : k < cs.length) (h0 : 0 ≤ v) (h1 : v ≤ at1 cs k) : boundS ns ls (cs.set k v) wk ≤ boundS ns ls cs wk := by
  have hpo := prob_of hp
  have hb := at1_bound (k := k) hpo.2.2.2.2 (by omega)
  refine bound_mono hp (prob_mk ((valid_iff ns ls).1 hpo.1) (by rw [List.length_set]; exact hpo.2.1) ⟨hpo.2.2.1, hpo.2.2.2.1⟩ fun c hc => ?_) (fun i hi => hi) (fun l hl => hl) (fun i hi => ?_) ?_
  · rcases List.mem_or_eq_of_mem_set hc with hc | hc
    · exact hpo.2.2.2.2 c hc
    · omega
  · unfold cI
    rw [at1_set hk]
    split
    · rename_i e; rw [← e]; exact h1
    · exact Int.le_refl _
  · rw [isum_set hk]; omega
theorem bound_rem {ns ls : List Q4} {cs : List Int} {wk : Int} {k : Nat} {y : Q4} (hp : problemS ns ls cs wk = true) (hy : ns[k]? = some y) : boundS (remN ns y.1) (remL ls y.1) (cs.take k ++ cs.drop (k + 1)) wk ≤ boundS ns ls cs wk := by
  have hpo := prob_of hp
  have g := (valid_iff ns ls).1 hpo.1
  have hk := (List.getElem?_eq_some_iff.1 hy).1
  have hkc : k < cs.length := by omega
  have hb := at1_bound (k := k) hpo.2.2.2.2 (by omega)
  have e : cs.take k ++ cs.drop (k + 1) = cs.eraseIdx k := (List.eraseIdx_eq_take_drop_succ ..).symm
  have hs := isum_cut hkc
  rw [e] at hs ⊢
  refine bound_mono hp (prob_mk (g.remove y.1) ?_ ⟨hpo.2.2.1, hpo.2.2.2.1⟩ fun c hc => hpo.2.2.2.2 c (List.mem_of_mem_eraseIdx hc)) (fun i hi => (mem_ids_rem.1 hi).1) (fun l hl => (mem_remL.1 hl).1) (fun i hi => ?_) (by omega)
  · rw [rem_erase g.nd hy, List.length_eraseIdx, List.length_eraseIdx, if_pos hk, if_pos hkc, hpo.2.1]
  · rw [cI_rem g.nd hy hi]; exact Int.le_refl _
theorem bound_dis {ns ls : List Q4} {cs : List Int} {wk : Int} (l : Q4) (hp : problemS ns ls cs wk = true) : boundS ns (disL ls l) cs wk ≤ boundS ns ls cs wk := by
  have hpo := prob_of hp
  have g := (valid_iff ns ls).1 hpo.1
  have hsub : (disL ls l).Sublist ls := List.filter_sublist
  exact bound_mono hp (prob_mk (g.fewer hsub) hpo.2.1 ⟨hpo.2.2.1, hpo.2.2.2.1⟩ hpo.2.2.2.2) (fun i hi => hi) (fun x hx => hsub.subset hx) (fun i hi => Int.le_refl _) (Int.le_refl _)
theorem bound_nil {ns ls : List Q4} {cs : List Int} {wk : Int} (hp : problemS ns ls cs wk = true) (hn : ns = []) : boundS ns ls cs wk = 0 := by
  subst hn
  have hpo := prob_of hp
  have hc : cs = [] := List.eq_nil_of_length_eq_zero hpo.2.1
  subst hc
  obtain ⟨L, hL⟩ := long_of (prob_one hp)
  have h1 := hL.least 0 (Int.le_refl _) fun i hi => by simp [ids] at hi
  have h2 := hL.pos
  have e : critS [] ls [] = 0 := by omega
  unfold boundS
  rw [hp, cond_true, e]
  simp [sumS]
end Go.Proofs.Ytkejdfnpbkdllaa
