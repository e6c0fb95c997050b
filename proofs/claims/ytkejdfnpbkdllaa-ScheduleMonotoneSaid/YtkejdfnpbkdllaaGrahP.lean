/- Plain laws: Graham's bound for list schedules. No program in sight. -/
import Derived.Test.YtkejdfnpbkdllaaCritP
import Derived.Test.YtkejdfnpbkdllaaComP
import Derived.Test.YtkejdfnpbkdllaaValP
set_option linter.unusedVariables false
set_option linter.unusedSimpArgs false
namespace Go.Proofs.Ytkejdfnpbkdllaa
open Go Go.RowKit Go.Proofs.YtkejdfnpbkdllaaV

/-! ### Sums -/
def isum : List Int → Int
  | [] => 0
  | x :: xs => x + isum xs
theorem isum_foldl : ∀ (cs : List Int) (a : Int), cs.foldl (· + ·) a = a + isum cs
  | [], a => by simp [isum]
  | x :: cs, a => by rw [List.foldl_cons, isum_foldl cs (a + x)]; simp only [isum]; omega
theorem isum_append : ∀ (xs ys : List Int), isum (xs ++ ys) = isum xs + isum ys
  | [], ys => by simp [isum]
  | x :: xs, ys => by rw [List.cons_append]; simp only [isum]; rw [isum_append xs ys]; omega
theorem sumS_isum (cs : List Int) : sumS cs = isum cs := by unfold sumS; rw [isum_foldl]; omega
theorem fsum_erase {f : Nat → Int} {x : Nat} : ∀ {ys : List Nat}, x ∈ ys → isum (ys.map f) = f x + isum ((ys.erase x).map f)
  | [], h => by cases h
  | y :: ys, h => by
    rw [List.erase_cons]
    by_cases e : y = x
    · subst e; simp [isum]
    · rw [if_neg (by simpa using e)]
      rcases List.mem_cons.1 h with rfl | h
      · exact absurd rfl e
      · rw [List.map_cons, List.map_cons]
        unfold isum
        rw [fsum_erase h]
        omega
theorem fsum_full {f : Nat → Int} : ∀ {xs ys : List Nat}, xs.Nodup → (∀ x ∈ xs, x ∈ ys) → xs.length = ys.length → isum (xs.map f) = isum (ys.map f)
  | [], ys, _, _, hl => by
    have : ys = [] := List.eq_nil_of_length_eq_zero hl.symm
    subst this; rfl
  | x :: xs, ys, hn, h, hl => by
    rw [List.nodup_cons] at hn
    have hx : x ∈ ys := h x (by simp)
    have := fsum_full (f := f) (xs := xs) (ys := ys.erase x) hn.2 (fun z hz => (List.mem_erase_of_ne (fun e : z = x => hn.1 (by rw [← e]; exact hz))).2 (h z (by simp [hz]))) (by
      rw [List.length_erase_of_mem hx]
      simp only [List.length_cons] at hl
      omega)
    rw [List.map_cons, fsum_erase hx, ← this]
    rfl
theorem map_at1 (cs : List Int) : (List.range cs.length).map (at1 cs) = cs := by
  apply List.ext_getElem?
  intro j
  rw [List.getElem?_map]
  by_cases hj : j < cs.length
  · rw [List.getElem?_range hj, at1_get hj]; rfl
  · rw [List.getElem?_eq_none (by simpa using hj), List.getElem?_eq_none (by omega)]; rfl

/-! ### The greater of the time and of when each worker is free, summed -/
def mx (t : Int) : List Int → Int
  | [] => 0
  | x :: b => (if x ≤ t then t else x) + mx t b
theorem mx_set {t c x : Int} (hx : x ≤ t) (hc : 0 ≤ c) : ∀ {b : List Int} {q : Nat}, b[q]? = some x → mx t (b.set q (t + c)) = mx t b + c
  | [], q, h => by simp at h
  | y :: b, 0, h => by
    simp only [List.getElem?_cons_zero, Option.some.injEq] at h
    subst h
    rw [List.set_cons_zero]
    unfold mx
    rw [if_pos hx]
    split <;> omega
  | y :: b, q + 1, h => by
    rw [List.getElem?_cons_succ] at h
    rw [List.set_cons_succ]
    unfold mx
    rw [mx_set hx hc h]
    omega
theorem mx_same {t t' : Int} (ht : t ≤ t') : ∀ {b : List Int}, (∀ x ∈ b, t < x ∧ t' ≤ x) → mx t' b = mx t b
  | [], _ => rfl
  | y :: b, h => by
    unfold mx
    rw [mx_same ht fun x hx => h x (by simp [hx])]
    have := h y (by simp)
    split <;> split <;> omega
theorem mx_le {t t' : Int} (ht : t ≤ t') : ∀ (b : List Int), mx t b ≤ mx t' b ∧ mx t' b ≤ mx t b + (b.length : Int) * (t' - t)
  | [] => by simp [mx]
  | y :: b => by
    have ih := mx_le ht b
    have e : ((y :: b).length : Int) * (t' - t) = (b.length : Int) * (t' - t) + (t' - t) := by rw [List.length_cons, Int.natCast_add, Int.add_mul]; simp
    rw [e]
    unfold mx
    generalize (b.length : Int) * (t' - t) = z at ih ⊢
    split <;> split <;> omega
theorem mx_le1 {t t' : Int} (ht : t ≤ t') : ∀ {b : List Int}, (∃ x ∈ b, t' ≤ x) → mx t' b ≤ mx t b + ((b.length : Int) - 1) * (t' - t)
  | [], h => by obtain ⟨x, hx, _⟩ := h; cases hx
  | y :: b, h => by
    have ih := mx_le ht b
    have e : (((y :: b).length : Int) - 1) * (t' - t) = (b.length : Int) * (t' - t) := by rw [List.length_cons, Int.natCast_add]; congr 1; simp
    have e2 : ((b.length : Int) - 1) * (t' - t) = (b.length : Int) * (t' - t) - (t' - t) := by rw [Int.sub_mul]; simp
    rw [e]
    by_cases hy : t' ≤ y
    · unfold mx
      generalize (b.length : Int) * (t' - t) = z at ih ⊢
      split <;> split <;> omega
    · obtain ⟨x, hx, hx2⟩ := h
      have hb : ∃ x ∈ b, t' ≤ x := by
        rcases List.mem_cons.1 hx with rfl | hx
        · exact absurd hx2 hy
        · exact ⟨x, hx, hx2⟩
      have ih1 := mx_le1 ht hb
      rw [e2] at ih1
      unfold mx
      generalize (b.length : Int) * (t' - t) = z at ih ih1 ⊢
      split <;> split <;> omega
theorem mx_top {T : Int} : ∀ {b : List Int}, (∀ x ∈ b, x ≤ T) → mx T b = (b.length : Int) * T
  | [], _ => by simp [mx]
  | y :: b, h => by
    unfold mx
    rw [if_pos (h y (by simp)), mx_top fun x hx => h x (by simp [hx]), List.length_cons, Int.natCast_add, Int.add_mul]
    simp
    omega
theorem mx_zero : ∀ k : Nat, mx 0 (List.replicate k 0) = 0
  | 0 => rfl
  | k + 1 => by rw [List.replicate_succ]; unfold mx; rw [mx_zero k]; rfl

/-! ### The least later end, the span -/
theorem later_least {t : Int} (ht : 0 ≤ t) : ∀ (l : List Q4) (o : Int), (o < 0 ∨ t < o) → (0 ≤ o → l.foldl (laterF t) o ≤ o) ∧ ∀ s ∈ l, t < s.2.2.2 → l.foldl (laterF t) o ≤ s.2.2.2
  | [], o, _ => ⟨fun _ => Int.le_refl _, by simp⟩
  | s :: l, o, ho => by
    rw [List.foldl_cons]
    by_cases hs : t < s.2.2.2
    · by_cases h2 : o < 0 ∨ s.2.2.2 < o
      · have e : laterF t o s = s.2.2.2 := by
          unfold laterF
          rw [decide_eq_true hs]
          rcases h2 with h2 | h2
          · rw [decide_eq_true h2]; rfl
          · rw [decide_eq_true h2, Bool.or_true]; rfl
        rw [e]
        obtain ⟨h3, h4⟩ := later_least ht l s.2.2.2 (.inr hs)
        have h5 := h3 (by omega)
        refine ⟨fun h => by omega, fun y hy hy2 => ?_⟩
        rcases List.mem_cons.1 hy with rfl | hy
        · exact h5
        · exact h4 y hy hy2
      · have e : laterF t o s = o := by
          unfold laterF
          rw [decide_eq_false (show ¬ o < 0 by omega), decide_eq_false (show ¬ s.2.2.2 < o by omega)]; simp
        rw [e]
        obtain ⟨h3, h4⟩ := later_least ht l o ho
        refine ⟨h3, fun y hy hy2 => ?_⟩
        rcases List.mem_cons.1 hy with rfl | hy
        · have := h3 (by omega)
          omega
        · exact h4 y hy hy2
    · have e : laterF t o s = o := by
        unfold laterF
        rw [decide_eq_false hs]; rfl
      rw [e]
      obtain ⟨h3, h4⟩ := later_least ht l o ho
      refine ⟨h3, fun y hy hy2 => ?_⟩
      rcases List.mem_cons.1 hy with rfl | hy
      · exact absurd hy2 hs
      · exact h4 y hy hy2
theorem span_fold : ∀ (l : List Q4) (n : Int), n ≤ l.foldl spanF n ∧ (∀ s ∈ l, s.2.2.2 ≤ l.foldl spanF n) ∧ (l.foldl spanF n = n ∨ ∃ s ∈ l, s.2.2.2 = l.foldl spanF n)
  | [], n => ⟨Int.le_refl _, by simp, .inl rfl⟩
  | s :: l, n => by
    rw [List.foldl_cons]
    obtain ⟨h1, h2, h3⟩ := span_fold l (spanF n s)
    have e : n ≤ spanF n s ∧ s.2.2.2 ≤ spanF n s ∧ (spanF n s = n ∨ spanF n s = s.2.2.2) := by unfold spanF; split <;> omega
    refine ⟨by omega, fun y hy => ?_, ?_⟩
    · rcases List.mem_cons.1 hy with rfl | hy
      · omega
      · exact h2 y hy
    · rcases h3 with h3 | ⟨y, hy, h3⟩
      · rcases e.2.2 with e2 | e2
        · exact .inl (by omega)
        · exact .inr ⟨s, by simp, by omega⟩
      · exact .inr ⟨y, by simp [hy], h3⟩

/-! ### What the steps keep -/
def work (ns : List Q4) (cs : List Int) (l : List Q4) : Int := isum (l.map fun s => cI ns cs s.1)
structure GI (ns ls : List Q4) (cs : List Int) (wk : Nat) (L : Int → Int) (st : CS) : Prop where
  wks : ∀ s ∈ st.l, 0 ≤ s.2.1 ∧ s.2.1 < wk
  cost : ∀ s ∈ st.l, 0 ≤ s.2.2.1 ∧ s.2.2.1 ≤ st.t ∧ s.2.2.2 = s.2.2.1 + cI ns cs s.1
  wait : ∀ s ∈ st.l, ∀ k ∈ ls, k.2.2.1 = s.1 → ∃ x ∈ st.l, x.1 = k.1 ∧ x.2.2.2 ≤ s.2.2.1
  busy : ∀ s ∈ st.l, s.2.2.2 ≤ at1 st.b s.2.1.toNat
  apart : st.l.Pairwise fun x s => overB x s = false
  tm : st.t = 0 ∨ ∃ s ∈ st.l, s.2.2.2 = st.t
  long : ∀ s ∈ st.l, L s.1 ≤ s.2.2.2
  idle : work ns cs st.l ≤ mx st.t st.b
  i1 : ∀ s ∈ st.l, st.t ≤ s.2.2.2 → mx st.t st.b - work ns cs st.l ≤ ((wk : Int) - 1) * (L s.1 - (s.2.2.2 - st.t))
  i2 : ∀ i ∈ ids ns, okNext ls st.l st.t i = true → mx st.t st.b - work ns cs st.l ≤ ((wk : Int) - 1) * (L i - cI ns cs i)
theorem GI.start {ns ls : List Q4} {cs : List Int} {wk : Nat} {L : Int → Int} {m : Int} (hL : LongP ns ls cs L m) (hw : 1 ≤ wk) : GI ns ls cs wk L ⟨[], List.replicate wk 0, 0⟩ := by
  refine ⟨by simp, by simp, by simp, by simp, by simp, .inl rfl, by simp, by rw [mx_zero]; simp [work, isum], by simp, fun i hi _ => ?_⟩
  dsimp only
  rw [mx_zero]
  have := hL.own i hi
  have h0 := Int.mul_nonneg (a := (wk : Int) - 1) (b := L i - cI ns cs i) (by omega) (by omega)
  simp only [work, isum, List.map_nil]
  omega
theorem ok_spec {ls l : List Q4} {t i : Int} : okNext ls l t i = true ↔ slotI l i < 0 ∧ ∀ k ∈ ls, k.2.2.1 = i → 0 ≤ slotI l k.1 ∧ (at0 l (slotI l k.1).toNat).2.2.2 ≤ t := by
  unfold okNext
  rw [Bool.and_eq_true, decide_eq_true_eq, ready_spec]
theorem slot_uniq {l : List Q4} (hn : (l.map (·.1)).Nodup) {x y : Q4} (hx : x ∈ l) (hy : y ∈ l) (h : x.1 = y.1) : x = y := by
  obtain ⟨i, hi⟩ := List.getElem?_of_mem hx
  obtain ⟨j, hj⟩ := List.getElem?_of_mem hy
  have a := slot_of_get hn hi
  have b := slot_of_get hn hj
  rw [h, b] at a
  have : i = j := by omega
  subst this
  rw [hi] at hj
  cases hj; rfl
/-- Who can begin now, and could not before, waited for one that ends now. -/
theorem ok_new {ls l l' : List Q4} {t t' i : Int} (hn : (l.map (·.1)).Nodup) (hsub : ∀ s ∈ l, s ∈ l') (h' : okNext ls l' t' i = true) (h : ¬ okNext ls l t i = true) : ∃ k ∈ ls, k.2.2.1 = i ∧ ∃ y ∈ l', y.1 = k.1 ∧ y.2.2.2 ≤ t' ∧ (y ∉ l ∨ t < y.2.2.2) := by
  rw [ok_spec] at h h'
  have hs : slotI l i < 0 := slot_none.2 fun s hs => slot_none.1 h'.1 s (hsub s hs)
  have : ¬ ∀ k ∈ ls, k.2.2.1 = i → 0 ≤ slotI l k.1 ∧ (at0 l (slotI l k.1).toNat).2.2.2 ≤ t := fun e => h ⟨hs, e⟩
  simp only [Classical.not_forall] at this
  obtain ⟨k, hk, hki, hbad⟩ := this
  obtain ⟨h1, h2⟩ := h'.2 k hk hki
  obtain ⟨h3, h4⟩ := slot_some h1
  refine ⟨k, hk, hki, _, h3, h4, h2, ?_⟩
  by_cases hy : at0 l' (slotI l' k.1).toNat ∈ l
  · right
    refine Classical.byContradiction fun hle => hbad ?_
    have h5 : 0 ≤ slotI l k.1 := by
      refine Classical.byContradiction fun hneg => ?_
      exact slot_none.1 (show slotI l k.1 < 0 by omega) _ hy h4
    obtain ⟨h6, h7⟩ := slot_some h5
    have e := slot_uniq hn h6 hy (by rw [h7, h4])
    rw [e]
    exact ⟨h5, by omega⟩
  · exact .inl hy
theorem next_zero {ns ls : List Q4} {l : List Q4} {t : Int} (g : VG ns ls) (h0 : nextI ls (orderS ns ls) l t = 0) : ∀ i ∈ ids ns, okNext ls l t i = false := fun i hi => by
  have hgo := (good_order ls g.nd).1
  obtain ⟨j, hj⟩ := ord_mem g i hi
  have hm := List.mem_of_getElem? hj
  unfold nextI at h0
  cases hf : (orderS ns ls).find? (okNext ls l t) with
  | none => simpa using List.find?_eq_none.1 hf i hm
  | some y =>
    rw [hf] at h0
    have hy := List.mem_of_find?_eq_some hf
    have := ord_pos g y hy
    simp only [Option.getD_some] at h0
    omega
theorem GI.slot {ns ls : List Q4} {cs : List Int} {wk : Nat} {L : Int → Int} {m : Int} {st : CS} {x : Int} {q : Nat} {z : Int} (g : VG ns ls) (hL : LongP ns ls cs L m) (hw : 1 ≤ wk) (hc : ∀ i, 0 ≤ cI ns cs i) (hR : Run ns ls cs wk st) (h : GI ns ls cs wk L st) (hx : x ∈ ids ns) (hok : okNext ls st.l st.t x = true) (hq : st.b[q]? = some z) (hz : z ≤ st.t) :
    GI ns ls cs wk L ⟨st.l ++ [(x, (q : Int), st.t, st.t + cI ns cs x)], st.b.set q (st.t + cI ns cs x), st.t⟩ := by
  have hqlt : q < st.b.length := (List.getElem?_eq_some_iff.1 hq).1
  have hqz : at1 st.b q = z := by have := at1_get hqlt; rw [hq] at this; cases this; rfl
  have hcx := hc x
  have ht := hR.time.1
  obtain ⟨hsx, hpre⟩ := ok_spec.1 hok
  have hmx := mx_set (b := st.b) hz hcx hq
  have hwk : work ns cs (st.l ++ [(x, (q : Int), st.t, st.t + cI ns cs x)]) = work ns cs st.l + cI ns cs x := by
    unfold work
    rw [List.map_append, isum_append]
    simp [isum]
  have m2 : ∀ {P : Q4 → Prop}, (∀ s ∈ st.l, P s) → P (x, (q : Int), st.t, st.t + cI ns cs x) → ∀ s ∈ st.l ++ [(x, (q : Int), st.t, st.t + cI ns cs x)], P s := fun h1 h2 s hs => by
    rcases List.mem_append.1 hs with hs | hs
    · exact h1 s hs
    · rw [List.mem_singleton] at hs; subst hs; exact h2
  have hi1 : ∀ s ∈ st.l ++ [(x, (q : Int), st.t, st.t + cI ns cs x)], st.t ≤ s.2.2.2 → mx st.t (st.b.set q (st.t + cI ns cs x)) - work ns cs (st.l ++ [(x, (q : Int), st.t, st.t + cI ns cs x)]) ≤ ((wk : Int) - 1) * (L s.1 - (s.2.2.2 - st.t)) := by
    rw [hmx, hwk]
    refine m2 (fun s hs hst => ?_) (fun _ => ?_)
    · have := h.i1 s hs hst
      omega
    · have := h.i2 x hx hok
      dsimp only
      have e : L x - (st.t + cI ns cs x - st.t) = L x - cI ns cs x := by omega
      rw [e]
      omega
  refine ⟨m2 h.wks ?_, m2 (fun s hs => h.cost s hs) ?_, ?_, m2 (fun s hs => ?_) ?_, ?_, ?_, m2 h.long ?_, ?_, hi1, ?_⟩
  · dsimp only
    have := hR.blen
    omega
  · dsimp only; omega
  · refine m2 (fun s hs k hk hks => ?_) (fun k hk hks => ?_)
    · obtain ⟨y, hy, h1, h2⟩ := h.wait s hs k hk hks
      exact ⟨y, by simp [hy], h1, h2⟩
    · obtain ⟨h1, h2⟩ := hpre k hk hks
      obtain ⟨h3, h4⟩ := slot_some h1
      exact ⟨_, by simp [h3], h4, h2⟩
  · dsimp only
    have hb := h.busy s hs
    rw [at1_set hqlt]
    split
    · rename_i e
      rw [← e, hqz] at hb
      omega
    · exact hb
  · dsimp only
    rw [at1_set hqlt, if_pos (by omega)]
    exact Int.le_refl _
  · rw [List.pairwise_append]
    refine ⟨h.apart, by simp, fun y hy s hs => ?_⟩
    rw [List.mem_singleton] at hs
    subst hs
    have hb := h.busy y hy
    have hyw := h.wks y hy
    unfold overB
    dsimp only
    by_cases e : y.2.1 = (q : Int)
    · have : y.2.1.toNat = q := by omega
      rw [this, hqz] at hb
      rw [decide_eq_false (show ¬ st.t < y.2.2.2 by omega)]
      simp
    · rw [beq_eq_false_iff_ne.2 e]; rfl
  · rcases h.tm with e | ⟨s, hs, e⟩
    · exact .inl e
    · exact .inr ⟨s, by simp [hs], e⟩
  · dsimp only
    refine hL.up x hx st.t ht fun k hk hkx => ?_
    obtain ⟨h1, h2⟩ := hpre k hk hkx
    obtain ⟨h3, h4⟩ := slot_some h1
    have := h.long _ h3
    rw [h4] at this
    omega
  · dsimp only
    rw [hmx, hwk]
    have := h.idle
    omega
  · intro i hi hoki
    by_cases ho : okNext ls st.l st.t i = true
    · have := h.i2 i hi ho
      dsimp only
      rw [hmx, hwk]
      omega
    · obtain ⟨k, hk, hki, y, hy, hyk, hye, hyn⟩ := ok_new hR.nd (fun s hs => by simp [hs]) hoki ho
      dsimp only at hye
      have hyt : st.t ≤ y.2.2.2 := by
        rcases hyn with hyn | hyn
        · rcases List.mem_append.1 hy with h9 | h9
          · exact absurd h9 hyn
          · rw [List.mem_singleton] at h9; subst h9; dsimp only; omega
        · omega
      have h8 := hi1 y hy hyt
      have hl := hL.link k hk
      rw [hki, ← hyk] at hl
      exact Int.le_trans h8 (Int.mul_le_mul_of_nonneg_left (by omega) (by omega))
theorem GI.time {ns ls : List Q4} {cs : List Int} {wk : Nat} {L : Int → Int} {m : Int} {st : CS} (g : VG ns ls) (hL : LongP ns ls cs L m) (hw : 1 ≤ wk) (hR : Run ns ls cs wk st) (h : GI ns ls cs wk L st) (hor : nextI ls (orderS ns ls) st.l st.t = 0 ∨ freeI st.b st.t < 0) (hfut : ∃ s ∈ st.l, st.t < s.2.2.2) :
    GI ns ls cs wk L ⟨st.l, st.b, laterS st.l st.t⟩ := by
  have ht := hR.time.1
  obtain ⟨hlt, s0, hs0, he0⟩ := later_some ht hfut
  have hleast : ∀ s ∈ st.l, st.t < s.2.2.2 → laterS st.l st.t ≤ s.2.2.2 := (later_least ht st.l (-1) (.inl (by omega))).2
  generalize laterS st.l st.t = t' at hlt he0 hleast
  have hD : (0 : Int) ≤ (wk : Int) - 1 := by omega
  have hb : ∀ x ∈ st.b, x ≤ st.t ∨ t' ≤ x := fun x hx => by
    rcases hR.busy x hx with e | ⟨s, hs, e⟩
    · left; omega
    · by_cases h1 : st.t < s.2.2.2
      · have := hleast s hs h1; right; omega
      · left; omega
  have hmono := (mx_le (t := st.t) (t' := t') (by omega) st.b).1
  have htop : ∃ x ∈ st.b, t' ≤ x := by
    have h1 := h.busy s0 hs0
    have h2 := h.wks s0 hs0
    have h3 := hR.blen
    have h4 := at1_get (xs := st.b) (k := s0.2.1.toNat) (by omega)
    exact ⟨_, List.mem_of_getElem? h4, by omega⟩
  have hgrow := mx_le1 (t := st.t) (t' := t') (by omega) htop
  rw [hR.blen] at hgrow
  -- either nobody idles, or nobody could begin
  have hcase : mx t' st.b = mx st.t st.b ∨ ∀ i ∈ ids ns, okNext ls st.l st.t i = false := by
    rcases hor with h0 | h0
    · exact .inr (next_zero g h0)
    · left
      refine mx_same (by omega) fun x hx => ?_
      have := (fIx_none (p := fun z : Int => decide (z ≤ st.t)) (Int.le_refl 0)).1 h0 x hx
      simp only [decide_eq_false_iff_not] at this
      rcases hb x hx with h1 | h1 <;> omega
  have hi1 : ∀ s ∈ st.l, t' ≤ s.2.2.2 → mx t' st.b - work ns cs st.l ≤ ((wk : Int) - 1) * (L s.1 - (s.2.2.2 - t')) := fun s hs hst => by
    have h1 := h.i1 s hs (by omega)
    have e : ((wk : Int) - 1) * (L s.1 - (s.2.2.2 - t')) = ((wk : Int) - 1) * (L s.1 - (s.2.2.2 - st.t)) + ((wk : Int) - 1) * (t' - st.t) := by rw [← Int.mul_add]; congr 1; omega
    rw [e]
    omega
  refine ⟨h.wks, fun s hs => ?_, h.wait, h.busy, h.apart, .inr ⟨s0, hs0, he0⟩, h.long, ?_, hi1, ?_⟩
  · have := h.cost s hs
    dsimp only
    omega
  · have := h.idle
    dsimp only
    omega
  · intro i hi hoki
    by_cases ho : okNext ls st.l st.t i = true
    · rcases hcase with e | e
      · have := h.i2 i hi ho
        dsimp only
        omega
      · rw [e i hi] at ho
        cases ho
    · obtain ⟨k, hk, hki, y, hy, hyk, hye, hyn⟩ := ok_new hR.nd (fun s hs => hs) hoki ho
      dsimp only at hye
      have hyt : t' ≤ y.2.2.2 := by
        rcases hyn with hyn | hyn
        · exact absurd hy hyn
        · exact hleast y hy hyn
      have h8 := hi1 y hy hyt
      have hl := hL.link k hk
      rw [hki, ← hyk] at hl
      exact Int.le_trans h8 (Int.mul_le_mul_of_nonneg_left (by omega) hD)
theorem GI.step {ns ls : List Q4} {cs : List Int} {wk : Nat} {L : Int → Int} {m : Int} {st : CS} (g : VG ns ls) (hL : LongP ns ls cs L m) (hw : 1 ≤ wk) (hc : ∀ i, 0 ≤ cI ns cs i) (hR : Run ns ls cs wk st) (h : GI ns ls cs wk L st) (hl : st.l.length < ns.length) : GI ns ls cs wk L (compStep ns ls cs (orderS ns ls) st) := by
  have hgo := (good_order ls g.nd).1
  by_cases hslot : 1 ≤ nextI ls (orderS ns ls) st.l st.t ∧ 0 ≤ freeI st.b st.t
  · rw [step_slot hslot.1 hslot.2]
    rcases next_of (ns := ns) (ls := ls) (l := st.l) (t := st.t) (ord_pos g) with h1 | ⟨_, x, h2, h3, h4, h5⟩
    · omega
    rw [h3]
    have hx : x ∈ ids ns := hgo.sub x (List.mem_of_getElem? h2)
    have hfree := hslot.2
    unfold freeI at hfree
    obtain ⟨z, hz1, hz2⟩ := fIx_some (Int.le_refl 0) hfree
    rw [Int.sub_zero] at hz1
    have e : ((freeI st.b st.t).toNat : Int) = freeI st.b st.t := Int.toNat_of_nonneg hslot.2
    have := GI.slot g hL hw hc hR h hx h5 (q := (freeI st.b st.t).toNat) hz1 (by simpa using hz2)
    rw [e] at this
    exact this
  · have hor : nextI ls (orderS ns ls) st.l st.t = 0 ∨ freeI st.b st.t < 0 := by
      rcases next_of (ns := ns) (ls := ls) (l := st.l) (t := st.t) (ord_pos g) with h1 | ⟨_, x, h2, h3, h4, h5⟩
      · exact .inl h1.2
      · omega
    rw [step_time hor]
    exact h.time g hL hw hR hor (run_progress g hw hR hl hor)

/-! ### Graham -/
theorem graham {ns ls : List Q4} {cs : List Int} {wk : Nat} (hp : problemS ns ls cs (wk : Int) = true) :
    SV ns ls cs wk (compS ns ls cs wk) ∧ critS ns ls cs ≤ spanS (compS ns ls cs wk) ∧ spanS (compS ns ls cs wk) ≤ boundS ns ls cs wk ∧ (wk = 1 → spanS (compS ns ls cs wk) = sumS cs) := by
  have hpo := prob_of hp
  have g := (valid_iff ns ls).1 hpo.1
  have hw : 1 ≤ wk := by omega
  obtain ⟨L, hL⟩ := long_of (prob_one hp)
  have hc : ∀ i, 0 ≤ cI ns cs i := fun i => (at1_bound (k := (placeI ns i).toNat) hpo.2.2.2.2 (by omega)).1
  have hc2 : ∀ i, cI ns cs i ≤ 1099511627776 := fun i => (at1_bound (k := (placeI ns i).toNat) hpo.2.2.2.2 (by omega)).2
  obtain ⟨st, hR, hG, he, hlen⟩ := comp_inv g hpo.2.2.2.2 hw (P := GI ns ls cs wk L) (GI.start hL hw) fun st hR h hl => h.step g hL hw hc hR hl
  rw [he]
  have hle : st.l.length = ns.length := by have := hR.len; omega
  have hSV : SV ns ls cs wk st.l := by
    refine ⟨hp, hle, fun s hs => (place_in (hR.sub s hs)).1, hR.nd, hG.wks, fun s hs => ?_, fun s hs => ?_, fun s hs k hk hks x hx hxk => ?_, hG.apart⟩
    · have := hG.cost s hs
      have := hc s.1
      omega
    · have h1 := hG.cost s hs
      have h2 := hc s.1
      have h3 := hc2 s.1
      show wrap64 _ = cI ns cs s.1
      rw [h1.2.2]
      have e : s.2.2.1 + cI ns cs s.1 - s.2.2.1 = cI ns cs s.1 := by omega
      rw [e]
      exact wrap64_in (by unfold In64; omega)
    · obtain ⟨y, hy, h1, h2⟩ := hG.wait s hs k hk hks
      have := slot_uniq hR.nd hx hy (by rw [hxk, h1])
      rw [this]
      exact h2
  have hfull := hSV.full
  obtain ⟨sp0, sp1, sp2⟩ := span_fold st.l 0
  change 0 ≤ spanS st.l at sp0
  change ∀ s ∈ st.l, s.2.2.2 ≤ spanS st.l at sp1
  change spanS st.l = 0 ∨ ∃ s ∈ st.l, s.2.2.2 = spanS st.l at sp2
  have hwork : work ns cs st.l = sumS cs := by
    rw [sumS_isum]
    unfold work
    have e1 : (st.l.map fun s => cI ns cs s.1) = (st.l.map fun s => (placeI ns s.1).toNat).map (at1 cs) := by rw [List.map_map]; rfl
    rw [e1]
    conv => rhs; rw [← map_at1 cs]
    refine fsum_full ?_ ?_ ?_
    · have hn := hR.nd
      unfold List.Nodup at *
      rw [List.pairwise_map] at *
      refine hn.imp_of_mem fun {a b} ha hb hne e => hne ?_
      have p1 := place_in (hR.sub a ha)
      have p2 := place_in (hR.sub b hb)
      exact place_inj (ns := ns) p1.1 (by omega)
    · intro x hx
      obtain ⟨s, hs, rfl⟩ := List.mem_map.1 hx
      have p1 := place_in (hR.sub s hs)
      exact List.mem_range.2 (by omega)
    · rw [List.length_map, List.length_range]
      omega
  have hsum0 : 0 ≤ sumS cs := by
    rw [sumS_isum]
    have : ∀ xs : List Int, (∀ c ∈ xs, 0 ≤ c) → 0 ≤ isum xs := by
      intro xs
      induction xs with
      | nil => intro _; exact Int.le_refl _
      | cons y ys ih => intro h; have := h y (by simp); have := ih fun c hc => h c (by simp [hc]); unfold isum; omega
    exact this cs fun c hcc => (hpo.2.2.2.2 c hcc).1
  have htT : st.t ≤ spanS st.l := by
    rcases hG.tm with e | ⟨s, hs, e⟩
    · omega
    · have := sp1 s hs; omega
  have hbT : ∀ x ∈ st.b, x ≤ spanS st.l := fun x hx => by
    rcases hR.busy x hx with e | ⟨s, hs, e⟩
    · omega
    · have := sp1 s hs; omega
  have hD : (0 : Int) ≤ (wk : Int) - 1 := by omega
  have hDc := Int.mul_nonneg hD hL.pos
  have htop : mx (spanS st.l) st.b = (wk : Int) * spanS st.l := by rw [mx_top hbT, hR.blen]
  have hup : (wk : Int) * spanS st.l ≤ sumS cs + ((wk : Int) - 1) * critS ns ls cs := by
    rcases sp2 with e | ⟨s, hs, e⟩
    · rw [e, Int.mul_zero]; omega
    · have h1 := hG.i1 s hs (by omega)
      have h2 := hG.busy s hs
      have h3 := hG.wks s hs
      have h4 := hR.blen
      have h5 := at1_get (xs := st.b) (k := s.2.1.toNat) (by omega)
      have h6 := mx_le1 (t := st.t) (t' := spanS st.l) htT ⟨_, List.mem_of_getElem? h5, by omega⟩
      rw [htop, h4] at h6
      have h7 := Int.mul_le_mul_of_nonneg_left (hL.le s.1 (hR.sub s hs)) hD
      have e2 : ((wk : Int) - 1) * (L s.1 - (s.2.2.2 - st.t)) = ((wk : Int) - 1) * L s.1 - ((wk : Int) - 1) * (spanS st.l - st.t) := by rw [← Int.mul_sub, e]
      rw [e2, hwork] at h1
      omega
  have hbound : spanS st.l ≤ boundS ns ls cs wk := by
    unfold boundS
    rw [hp, cond_true]
    refine Int.le_ediv_of_mul_le (by omega) ?_
    rw [Int.mul_comm]
    exact hup
  refine ⟨hSV, ?_, hbound, fun hw1 => ?_⟩
  · refine hL.least _ sp0 fun i hi => ?_
    obtain ⟨s, hs, rfl⟩ := hfull i hi
    have := hG.long s hs
    have := sp1 s hs
    omega
  · subst hw1
    have h1 := hG.idle
    have h2 := (mx_le (t := st.t) (t' := spanS st.l) htT st.b).1
    rw [htop] at h2
    rw [hwork] at h1
    have e : (((1 : Nat) : Int) - 1) * critS ns ls cs = 0 := by simp
    rw [e] at hup
    have e2 : ((1 : Nat) : Int) * spanS st.l = spanS st.l := by simp
    rw [e2] at h2 hup
    omega
theorem bound_one {ns ls : List Q4} {cs : List Int} (hp : problemS ns ls cs 1 = true) : boundS ns ls cs 1 = sumS cs := by
  unfold boundS
  rw [hp, cond_true]
  simp
end Go.Proofs.Ytkejdfnpbkdllaa
