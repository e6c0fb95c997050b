/- Plain laws for the walk of Valid: the map of slots by place. -/
import Derived.Test.YtkejdfnpbkdllaaValP
set_option linter.unusedVariables false
set_option linter.unusedSimpArgs false
namespace Go.Proofs.Ytkejdfnpbkdllaa
open Go Go.RowKit Go.Proofs.YtkejdfnpbkdllaaV

def plJ (ns : List Q4) (i : Int) : Int := if placeI ns i < 0 then 0 else placeI ns i
theorem plJ_pos {ns : List Q4} {i : Int} (h : 0 ≤ placeI ns i) : plJ ns i = placeI ns i := by unfold plJ; rw [if_neg (by omega)]
theorem plJ_in {ns : List Q4} (i : Int) (h : 0 < ns.length) : 0 ≤ plJ ns i ∧ plJ ns i < ns.length := by
  have := place_lt ns i
  unfold plJ
  split <;> omega
theorem plJ_ok {ns : List Q4} {kv : List (Int × Int)} (h : ∀ i, mget kv i = if 0 ≤ placeI ns i then some (placeI ns i) else none) (i : Int) : (mget kv i).getD 0 = plJ ns i ∧ (mget kv i).isSome = decide (0 ≤ placeI ns i) := by
  rw [h]
  unfold plJ
  by_cases h1 : 0 ≤ placeI ns i
  · rw [if_pos h1, if_neg (by omega), decide_eq_true h1]; exact ⟨rfl, rfl⟩
  · rw [if_neg h1, if_pos (by omega), decide_eq_false h1]; exact ⟨rfl, rfl⟩
def kvS (ns l : List Q4) : List (Int × Q4) := l.map fun s => (placeI ns s.1, s)
theorem kvS_len (ns l : List Q4) : (kvS ns l).length = l.length := List.length_map ..
theorem kvS_at {ns l : List Q4} {j : Nat} {z : Int × Q4} (h : (kvS ns l)[j]? = some z) : ∃ y, l[j]? = some y ∧ (placeI ns y.1, y) = z := by
  unfold kvS at h
  rw [List.getElem?_map] at h
  obtain ⟨y, h1, h2⟩ := Option.map_eq_some_iff.1 h
  exact ⟨y, h1, h2⟩
structure VS (ns : List Q4) (cs : List Int) (wk : Int) (l : List Q4) : Prop where
  place : ∀ s ∈ l, 0 ≤ placeI ns s.1
  nd : (l.map (·.1)).Nodup
  wk : ∀ s ∈ l, 0 ≤ s.2.1 ∧ s.2.1 < wk
  st : ∀ s ∈ l, 0 ≤ s.2.2.1 ∧ s.2.2.1 ≤ s.2.2.2
  cost : ∀ s ∈ l, wrap64 (s.2.2.2 - s.2.2.1) = at1 cs (placeI ns s.1).toNat
theorem VS.nil (ns : List Q4) (cs : List Int) (wk : Int) : VS ns cs wk [] := ⟨by simp, by simp, by simp, by simp, by simp⟩
theorem kvS_keys {ns l : List Q4} (hp : ∀ s ∈ l, 0 ≤ placeI ns s.1) (hn : (l.map (·.1)).Nodup) : ((kvS ns l).map (·.1)).Nodup := by
  unfold kvS
  rw [List.map_map]
  unfold List.Nodup at *
  rw [List.pairwise_map] at *
  exact hn.imp_of_mem fun {a b} ha hb h e => h (place_inj (hp a ha) e)
theorem kvS_some {ns l : List Q4} {k : Int} (h : (mget (kvS ns l) k).isSome = true) : ∃ s ∈ l, placeI ns s.1 = k := by
  have := mget_isSome.1 h
  unfold kvS at this
  rw [List.map_map] at this
  exact List.mem_map.1 this
theorem kvS_get {ns l : List Q4} (hp : ∀ s ∈ l, 0 ≤ placeI ns s.1) (hn : (l.map (·.1)).Nodup) {s : Q4} (hs : s ∈ l) : mget (kvS ns l) (placeI ns s.1) = some s :=
  mget_of_mem (kvS_keys hp hn) (List.mem_map.2 ⟨s, hs, rfl⟩)
theorem twice_no {ns l : List Q4} {k : Nat} {z : Q4} (hn : (l.map (·.1)).Nodup) (hz : l[k]? = some z) (hp : 0 ≤ placeI ns z.1) (h : (mget (kvS ns (l.take k)) (plJ ns z.1)).isSome = true) : False := by
  obtain ⟨s, hs, he⟩ := kvS_some h
  rw [plJ_pos hp] at he
  have e : s.1 = z.1 := place_inj (by omega) he
  have hl := (List.getElem?_eq_some_iff.1 hz)
  have h1 : ((l.take (k + 1)).map (·.1)).Nodup := hn.sublist ((List.take_sublist _ _).map _)
  rw [List.take_add_one, hz, Option.toList_some, List.map_append, List.map_singleton, List.nodup_append] at h1
  exact h1.2.2 s.1 (List.mem_map.2 ⟨s, hs, rfl⟩) z.1 (by simp) e
theorem VS.snoc {ns l : List Q4} {cs : List Int} {wk : Int} {k : Nat} {z : Q4} (h : VS ns cs wk (l.take k)) (hz : l[k]? = some z) (hp : 0 ≤ placeI ns z.1) (ht : (mget (kvS ns (l.take k)) (plJ ns z.1)).isSome = false) (hw : 0 ≤ z.2.1 ∧ z.2.1 < wk) (hs : 0 ≤ z.2.2.1 ∧ z.2.2.1 ≤ z.2.2.2) (hc : wrap64 (z.2.2.2 - z.2.2.1) = at1 cs (plJ ns z.1).toNat) : VS ns cs wk (l.take (k + 1)) := by
  have e : l.take (k + 1) = l.take k ++ [z] := by rw [List.take_add_one, hz]; rfl
  have m : ∀ {P : Q4 → Prop}, (∀ s ∈ l.take k, P s) → P z → ∀ s ∈ l.take k ++ [z], P s := fun h1 h2 s hs => by
    rcases List.mem_append.1 hs with hs | hs
    · exact h1 s hs
    · rw [List.mem_singleton] at hs; subst hs; exact h2
  rw [e]
  rw [plJ_pos hp] at ht hc
  refine ⟨m h.place hp, ?_, m h.wk hw, m h.st hs, m h.cost hc⟩
  rw [List.map_append, List.map_singleton, List.nodup_append]
  refine ⟨h.nd, by simp, fun a ha b hb e2 => ?_⟩
  obtain ⟨s, hs, rfl⟩ := List.mem_map.1 ha
  simp only [List.mem_singleton] at hb
  subst hb
  have := kvS_get h.place h.nd hs
  rw [e2] at this
  rw [this] at ht
  cases ht
theorem kvS_snoc {ns l : List Q4} {k : Nat} {z : Q4} (hz : l[k]? = some z) (hp : 0 ≤ placeI ns z.1) (ht : (mget (kvS ns (l.take k)) (plJ ns z.1)).isSome = false) : mset (kvS ns (l.take k)) (plJ ns z.1) z = kvS ns (l.take (k + 1)) := by
  rw [mset_new (by cases h : mget (kvS ns (l.take k)) (plJ ns z.1) with | none => rfl | some s => rw [h] at ht; cases ht), List.take_add_one, hz, plJ_pos hp]
  unfold kvS
  rw [List.map_append]
  rfl
theorem SV.vs {ns ls : List Q4} {cs : List Int} {wk : Int} {l : List Q4} (h : SV ns ls cs wk l) : VS ns cs wk l := ⟨h.place, h.nd, h.wk, h.st, h.cost⟩
/-- One slot has waited, and lies apart from the others. -/
def WaitOk (ns ls l : List Q4) (z : Q4) : Prop := ∀ x ∈ befRow ns ls z.1, ((mget (kvS ns l) x).getD (0, 0, 0, 0)).2.2.2 ≤ z.2.2.1
def ApartOk (ns l : List Q4) (z : Q4) : Prop := ∀ y ∈ l, placeI ns y.1 = placeI ns z.1 ∨ overB y z = false
theorem overB_no {y z : Q4} (h : ¬ (y.2.1 = z.2.1 ∧ z.2.2.1 < y.2.2.2 ∧ y.2.2.1 < z.2.2.2)) : overB y z = false := by
  unfold overB
  rw [← Bool.not_eq_true]
  simp only [Bool.and_eq_true, beq_iff_eq, decide_eq_true_eq]
  intro h2
  exact h ⟨h2.1.1, h2.1.2, h2.2⟩
theorem overB_yes {y z : Q4} (h : overB y z = false) : ¬ (y.2.1 = z.2.1 ∧ z.2.2.1 < y.2.2.2 ∧ y.2.2.1 < z.2.2.2) := by
  unfold overB at h
  rw [← Bool.not_eq_true] at h
  simp only [Bool.and_eq_true, beq_iff_eq, decide_eq_true_eq] at h
  intro h2
  exact h ⟨⟨h2.1, h2.2.1⟩, h2.2.2⟩
theorem pw_of_mem {l : List Q4} (h : ∀ x ∈ l, ∀ y ∈ l, x.1 ≠ y.1 → overB x y = false) (hn : (l.map (·.1)).Nodup) : l.Pairwise fun x s => overB x s = false := by
  unfold List.Nodup at hn
  rw [List.pairwise_map] at hn
  exact hn.imp_of_mem fun {a b} ha hb hne => h a ha b hb hne
theorem mem_of_pw {l : List Q4} (h : l.Pairwise fun x s => overB x s = false) : ∀ x ∈ l, ∀ y ∈ l, x.1 ≠ y.1 → overB x y = false := by
  intro x hx y hy hne
  obtain ⟨i, hi⟩ := List.getElem?_of_mem hx
  obtain ⟨j, hj⟩ := List.getElem?_of_mem hy
  rw [List.pairwise_iff_getElem] at h
  obtain ⟨hi1, hi2⟩ := List.getElem?_eq_some_iff.1 hi
  obtain ⟨hj1, hj2⟩ := List.getElem?_eq_some_iff.1 hj
  rcases Nat.lt_trichotomy i j with h1 | h1 | h1
  · have := h i j hi1 hj1 h1; rw [hi2, hj2] at this; exact this
  · subst h1; rw [hi2] at hj2; subst hj2; exact absurd rfl hne
  · have := h j i hj1 hi1 h1; rw [hi2, hj2] at this; rw [overB_symm]; exact this
theorem SV.waitOk {ns ls : List Q4} {cs : List Int} {wk : Int} {l : List Q4} (h : SV ns ls cs wk l) {z : Q4} (hz : z ∈ l) : WaitOk ns ls l z := fun x hx => by
  unfold befRow linksTo at hx
  obtain ⟨k, hk, rfl⟩ := List.mem_map.1 hx
  rw [List.mem_filter, beq_iff_eq] at hk
  obtain ⟨s, hs, he⟩ := h.full k.1 (ports_ends (h.vg.port k hk.1)).1
  rw [← he, kvS_get h.place h.nd hs]
  exact h.wait z hz k hk.1 hk.2 s hs he
theorem SV.apartOk {ns ls : List Q4} {cs : List Int} {wk : Int} {l : List Q4} (h : SV ns ls cs wk l) {z : Q4} (hz : z ∈ l) : ApartOk ns l z := fun y hy => by
  by_cases he : y.1 = z.1
  · left; rw [he]
  · exact .inr (mem_of_pw h.apart y hy z hz he)
theorem SV.build {ns ls : List Q4} {cs : List Int} {wk : Int} {l : List Q4} (hp : problemS ns ls cs wk = true) (hl : l.length = ns.length) (h : VS ns cs wk l) (ho : ∀ z ∈ l, WaitOk ns ls l z ∧ ApartOk ns l z) : SV ns ls cs wk l :=
  ⟨hp, hl, h.place, h.nd, h.wk, h.st, h.cost, fun s hs k hk hks x hx hxk => by
    have := (ho s hs).1 (placeI ns k.1) (by unfold befRow linksTo; exact List.mem_map.2 ⟨k, List.mem_filter.2 ⟨hk, beq_iff_eq.2 hks⟩, rfl⟩)
    rw [← hxk, kvS_get h.place h.nd hx] at this
    exact this, pw_of_mem (fun x hx y hy hne => by
      rcases (ho y hy).2 x hx with h1 | h1
      · exact absurd (place_inj (h.place x hx) h1) hne
      · exact h1) h.nd⟩
theorem seen_len {seen : List Nat} {n : Nat} (h : seen.Nodup) (hb : ∀ j ∈ seen, j < n) : seen.length ≤ n := by
  have := nodup_len_le h (ys := List.range n) (fun j hj => List.mem_range.2 (hb j hj))
  rw [List.length_range] at this
  exact this
theorem seen_snoc {seen : List Nat} {n j : Nat} (h : seen.Nodup) (hb : ∀ j ∈ seen, j < n) (hn : j ∉ seen) (hj : j < n) : (seen ++ [j]).Nodup ∧ (∀ i ∈ seen ++ [j], i < n) ∧ seen.length + 1 ≤ n := by
  have h1 : (seen ++ [j]).Nodup := by
    rw [List.nodup_append]
    exact ⟨h, by simp, fun a ha b hb2 e => by simp only [List.mem_singleton] at hb2; subst hb2; subst e; exact hn ha⟩
  have h2 : ∀ i ∈ seen ++ [j], i < n := fun i hi => by
    rcases List.mem_append.1 hi with hi | hi
    · exact hb i hi
    · rw [List.mem_singleton] at hi; subst hi; exact hj
  have := seen_len h1 h2
  rw [List.length_append] at this
  exact ⟨h1, h2, by simpa using this⟩
/-- All that were seen are so. -/
def SeenOk (l : List Q4) (P : Q4 → Prop) (seen : List Nat) : Prop := seen.Nodup ∧ (∀ j ∈ seen, j < l.length) ∧ ∀ j ∈ seen, ∀ z, l[j]? = some z → P z
theorem SeenOk.start (l : List Q4) (P : Q4 → Prop) : SeenOk l P [] := ⟨by simp, by simp, by simp⟩
theorem SeenOk.step {l : List Q4} {P : Q4 → Prop} {seen : List Nat} {j : Nat} {z : Q4} (h : SeenOk l P seen) (hn : j ∉ seen) (hz : l[j]? = some z) (hp : P z) : SeenOk l P (seen ++ [j]) ∧ l.length - (seen ++ [j]).length < l.length - seen.length := by
  have hj := (List.getElem?_eq_some_iff.1 hz).1
  obtain ⟨h1, h2, h3⟩ := seen_snoc h.1 h.2.1 hn hj
  refine ⟨⟨h1, h2, fun i hi y hy => ?_⟩, by rw [List.length_append, List.length_singleton]; omega⟩
  rcases List.mem_append.1 hi with hi | hi
  · exact h.2.2 i hi y hy
  · rw [List.mem_singleton] at hi; subst hi; rw [hz] at hy; cases hy; exact hp
theorem SeenOk.all {ns l : List Q4} {P : Q4 → Prop} {seen : List Nat} (h : SeenOk l P seen) (ha : ∀ j, j < (kvS ns l).length → j ∈ seen) : ∀ z ∈ l, P z := fun z hz => by
  obtain ⟨j, hj⟩ := List.getElem?_of_mem hz
  exact h.2.2 j (ha j (by rw [kvS_len]; exact (List.getElem?_eq_some_iff.1 hj).1)) z hj
/-- A cell that is seen in the world as it is. -/
theorem Sl_now {α : Type} {enc : α → List Value} {m : Nat} {a : Option Addr} {cap : Nat} {xs : List α} {S : List Nat} {w0 : World} {Γ : List Piece} (h : ∀ w, St S w0 w Γ → Sl [] enc m w a cap xs) {i : Nat} {z : α} (hi : xs[i]? = some z) {j : Nat} {v : Value} (hj : Nth (enc z) j v) : ∀ w, St S w0 w Γ → w.cell? ((adr a).add (i * m + j)) = some v :=
  fun w hs => (h w hs).cell i z hi j v hj.get
end Go.Proofs.Ytkejdfnpbkdllaa
