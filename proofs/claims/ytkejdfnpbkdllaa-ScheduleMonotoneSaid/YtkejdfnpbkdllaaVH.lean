/- Rows of elements that a slice shows: in old memory, in memory of our own; appending, making, cutting, writing. No program is named here. -/
import Derived.Test.YtkejdfnpbkdllaaVG
import Derived.Laws.AppendOwn
import Derived.Laws.OwnMore
import Derived.Laws.Slices
import Derived.Deep.Slices
import Derived.ArgAppend
namespace Go.Proofs.YtkejdfnpbkdllaaV
open Go Go.RowKit
set_option linter.unusedVariables false
set_option linter.unusedSimpArgs false

/-! ### 10. What a slice shows -/
def adr (a : Option Addr) : Addr := a.getD ⟨0, 0, none⟩
def Real (a : Option Addr) (n : Nat) : Prop := n = 0 ∨ a.isSome = true
theorem Real.get {a : Option Addr} {n : Nat} (h : Real a n) (hn : 0 < n) : a = some (adr a) := by
  rcases h with h | h
  · omega
  · cases a
    · cases h
    · rfl
/-- The slice (a, _, cap) shows xs; its array is none of S. -/
structure Sl {α : Type} (S : List Nat) (enc : α → List Value) (m : Nat) (w : World) (a : Option Addr) (cap : Nat) (xs : List α) : Prop where
  real : Real a xs.length
  le : xs.length ≤ cap
  nil : a = none → cap = 0
  sm : xs.length ≤ 9223372036854775807
  far : 0 < xs.length → (adr a).block ∉ S
  lt : 0 < xs.length → (adr a).block < w.heap.size
  cell : ∀ i x, xs[i]? = some x → ∀ j v, (enc x)[j]? = some v → w.cell? ((adr a).add (i * m + j)) = some v

section
variable {α : Type} {enc : α → List Value} {m : Nat} {a : Option Addr} {cap : Nat} {xs : List α}
variable {P : Program} {S : List Nat} {w0 w w' : World} {Γ Γ' : List Piece} {L L' : List (Nat × Value)} {n : Nat} {ops : Array Oper} {rest : List Oper} {Q : Exit → Act → World → Prop} {o : Oper} {d : Nat} {v : Value}
variable {ty : TypeId} {x y c : Operand} {pos : String} {after : Array Edge} {op : Op} {C : World → Prop}

theorem Sl.none0 (w : World) : Sl S enc m w none 0 ([] : List α) := ⟨.inl rfl, Nat.le_refl _, fun _ => rfl, by simp, by simp, by simp, by simp⟩
theorem Sl.none' (w : World) (cap : Nat) (a : Option Addr) (h : a = none → cap = 0) : Sl S enc m w a cap ([] : List α) := ⟨.inl rfl, Nat.zero_le _, h, by simp, by simp, by simp, by simp⟩
theorem Sl.keep (h : Sl S enc m w a cap xs) (k : Keep S w w') : Sl S enc m w' a cap xs :=
  ⟨h.real, h.le, h.nil, h.sm, h.far, fun hn => Nat.lt_of_lt_of_le (h.lt hn) k.size, fun i x hi j v hj => k.cell (by rw [add_block]; exact h.far (by have := (List.getElem?_eq_some_iff.1 hi).1; omega)) (h.cell i x hi j v hj)⟩
theorem Sl.weak (h : Sl S enc m w a cap xs) : Sl [] enc m w a cap xs := ⟨h.real, h.le, h.nil, h.sm, by simp, h.lt, h.cell⟩
theorem Sl.at' (h : Sl S enc m w0 a cap xs) (hs : St S w0 w Γ) : Sl [] enc m w a cap xs := (h.keep hs.keep).weak
/-- A new block is far from all that is old. -/
theorem Sl.fresh {g : Nat} (h : Sl [] enc m w a cap xs) (hg : w.heap.size ≤ g) : Sl [g] enc m w a cap xs := ⟨h.real, h.le, h.nil, h.sm, fun hn => by have := h.lt hn; simp only [List.mem_singleton]; omega, h.lt, h.cell⟩
theorem Sl.take (h : Sl S enc m w a cap xs) (k : Nat) : Sl S enc m w a cap (xs.take k) := by
  refine ⟨?_, ?_, ?_, by have := h.sm; rw [List.length_take]; omega, fun hn => h.far ?_, fun hn => h.lt ?_, fun i x hi => ?_⟩
  · rcases h.real with e | e
    · exact .inl (by rw [List.length_take, e, Nat.min_zero])
    · exact .inr e
  · have := h.le; rw [List.length_take]; omega
  · exact h.nil
  · simp at hn; omega
  · simp at hn; omega
  · rw [List.getElem?_take] at hi
    split at hi
    · exact h.cell i x hi
    · cases hi
theorem add_assoc' (A : Addr) (i j : Nat) : (A.add i).add j = A.add (i + j) := Go.Deep.add_add A i j
theorem Sl.drop (h : Sl S enc m w a cap xs) (k : Nat) (hk : k ≤ xs.length) : Sl S enc m w (if cap = k then a else a.map (·.add (k * m))) (cap - k) (xs.drop k) := by
  have hle := h.le
  by_cases e : cap = k
  · have : xs.drop k = [] := List.drop_eq_nil_of_le (by omega)
    rw [this]
    exact .none' _ _ _ (fun _ => by omega)
  · rw [if_neg e]
    by_cases e0 : xs.drop k = []
    · rw [e0]; exact .none' _ _ _ (fun hx => by cases a with | none => have := h.nil rfl; omega | some A => simp at hx)
    · have hpos : 0 < (xs.drop k).length := List.length_pos_iff.2 e0
      have hx : 0 < xs.length := by simp at hpos; omega
      have ha := h.real.get hx
      have hb : adr (a.map (·.add (k * m))) = (adr a).add (k * m) := by rw [ha]; rfl
      refine ⟨.inr (by rw [ha]; rfl), by simp; omega, by rw [ha]; simp, by have := h.sm; simp; omega, fun _ => by rw [hb, add_block]; exact h.far hx, fun _ => by rw [hb, add_block]; exact h.lt hx, fun i x hi j v hj => ?_⟩
      rw [List.getElem?_drop] at hi
      have := h.cell (k + i) x hi j v hj
      rw [hb, add_assoc']
      rw [show k * m + (i * m + j) = (k + i) * m + j by rw [Nat.add_mul]; omega]
      exact this
/-- A cell of an element, in every state of the walk. -/
theorem Sl.get (h : Sl S enc m w0 a cap xs) {i : Nat} {z : α} (hi : xs[i]? = some z) {j : Nat} {v : Value} (hj : Nth (enc z) j v) : ∀ w, St S w0 w Γ → w.cell? ((adr a).add (i * m + j)) = some v :=
  fun w hs => ((h.keep hs.keep).cell i z hi j v hj.get)
theorem Sl.gets (h : Sl S enc m w0 a cap xs) {i : Nat} {z : α} (hi : xs[i]? = some z) : ∀ w, St S w0 w Γ → ∀ j u, (enc z)[j]? = some u → w.cell? ((adr a).add (i * m + j)) = some u :=
  fun w hs j u hj => ((h.keep hs.keep).cell i z hi j u hj)

/-! ### 11. A row of our own -/
def blk (a : Option Addr) : List Nat := match a with
  | some A => [A.block]
  | none => []
/-- The row that the slice (a, zs.length, cap) shows is ours; there may be room behind it. -/
def RowP (enc : α → List Value) (m : Nat) (e : TypeId) (a : Option Addr) (cap : Nat) (zs : List α) : Piece :=
  ⟨blk a, fun w => w.ownsRow 0 e m (.slice a zs.length cap) zs.length (zs.flatMap enc), fun w w' h hp => by
    refine ⟨hp.1, ?_⟩
    rcases hp.2 with h1 | ⟨g, c, cur, h1, h2, h3, h4⟩
    · exact .inl h1
    · refine .inr ⟨g, c, cur, h1, h2, ?_, h4⟩
      simp only [Value.slice.injEq] at h1
      obtain ⟨rfl, _, _⟩ := h1
      exact (h g (by simp [blk])).trans h3⟩

theorem flatMap_get {enc : α → List Value} {m : Nat} (hm : ∀ z, (enc z).length = m) : ∀ (zs : List α) (i : Nat) (z : α), zs[i]? = some z → ∀ j v, (enc z)[j]? = some v → (zs.flatMap enc)[i * m + j]? = some v
  | [], i, z, h, _, _, _ => by simp at h
  | y :: zs, 0, z, h, j, v, hj => by
    simp only [List.getElem?_cons_zero, Option.some.injEq] at h
    subst h
    simp only [List.flatMap_cons, Nat.zero_mul, Nat.zero_add]
    rw [List.getElem?_append_left (List.getElem?_eq_some_iff.1 hj).1]
    exact hj
  | y :: zs, i + 1, z, h, j, v, hj => by
    simp only [List.getElem?_cons_succ] at h
    have ih := flatMap_get hm zs i z h j v hj
    simp only [List.flatMap_cons]
    rw [List.getElem?_append_right (by rw [hm]; rw [Nat.add_mul]; omega), hm]
    rw [show (i + 1) * m + j - m = i * m + j by rw [Nat.add_mul]; omega]
    exact ih
theorem flatMap_len {enc : α → List Value} {m : Nat} (hm : ∀ z, (enc z).length = m) (zs : List α) : (zs.flatMap enc).length = zs.length * m := by
  induction zs with
  | nil => simp
  | cons z zs ih => simp only [List.flatMap_cons, List.length_append, List.length_cons, ih, hm, Nat.add_mul]; omega

/-- What our own row shows. -/
theorem St.rows {i : Nat} {e : TypeId} (hm : ∀ z : α, (enc z).length = m) (hm0 : 0 < m) (hs : St S w0 w Γ) (hin : Nth Γ i (RowP enc m e a cap xs)) : Sl [] enc m w a cap xs := by
  have hp := hs.piece hin.get
  have hf := hs.ins _ (List.mem_of_getElem? hin.get)
  rcases hp.2 with ⟨h1, h2⟩ | ⟨g, c, cur, h1, h2, h3, h4, h5, h6, h7⟩
  · simp only [Value.slice.injEq] at h1
    obtain ⟨rfl, h8, rfl⟩ := h1
    have : xs = [] := List.eq_nil_of_length_eq_zero h2
    subst this
    exact .none0 _
  · simp only [Value.slice.injEq] at h1
    obtain ⟨rfl, _, rfl⟩ := h1
    refine ⟨.inr rfl, h4, by simp, by have := h5; simp [maxLen] at this; omega, by simp, fun _ => (hf g (by simp [RowP, blk])).1, fun i x hi j v hj => ?_⟩
    have hr := flatMap_get hm xs i x hi j v hj
    show w.cell? (Addr.add ⟨g, 0, none⟩ (i * m + j)) = some v
    rw [Addr.add_lit, Nat.zero_add]
    have := World.ownsRow.cellAt (h := hp) (i * m + j) (by
      have := (List.getElem?_eq_some_iff.1 hr).1
      rw [flatMap_len hm] at this
      exact this)
    rw [this]; exact hr

theorem RowP.get {i k : Nat} {e : TypeId} (hm : ∀ z : α, (enc z).length = m) (hm0 : 0 < m) (hin : Nth Γ i (RowP enc m e a cap xs)) {z : α} (hi : xs[k]? = some z) {j : Nat} {v : Value} (hj : Nth (enc z) j v) : ∀ w, St S w0 w Γ → w.cell? ((adr a).add (k * m + j)) = some v :=
  fun w hs => (hs.rows hm hm0 hin).cell k z hi j v hj.get
theorem RowP.gets {i k : Nat} {e : TypeId} (hm : ∀ z : α, (enc z).length = m) (hm0 : 0 < m) (hin : Nth Γ i (RowP enc m e a cap xs)) {z : α} (hi : xs[k]? = some z) : ∀ w, St S w0 w Γ → ∀ j u, (enc z)[j]? = some u → w.cell? ((adr a).add (k * m + j)) = some u :=
  fun w hs j u hj => (hs.rows hm hm0 hin).cell k z hi j u hj
/-- A variable that holds one element shows it. -/
theorem St.box1 {i g : Nat} {e : TypeId} {z : α} (hs : St S w0 w Γ) (hin : Nth Γ i (Box g (enc z) e)) : Sl [] enc m w (some ⟨g, 0, none⟩) 1 [z] := by
  refine ⟨.inr rfl, Nat.le_refl _, by simp, by simp, by simp, fun _ => (hs.ins _ (List.mem_of_getElem? hin.get) g (by simp [Box])).1, fun i x hi j v hj => ?_⟩
  cases i with
  | zero =>
    simp only [List.getElem?_cons_zero, Option.some.injEq] at hi
    subst hi
    show w.cell? (Addr.add ⟨g, 0, none⟩ (0 * m + j)) = some v
    rw [Addr.add_lit]
    exact cell_of_block (hs.box hin.get) (by simpa using hj)
  | succ i => simp at hi

/-! ### 11b. Guards that stand on what was passed by -/
theorem yielded_undef {A : Act} {j t : Nat} (hf : Fr A n L) (hj : (ops[j]?).bind (·.dst) = some t) (hv : lk t L = some undef) : yielded ops A.tmps j = none := by
  have h := hf.g t _ hv
  unfold yielded
  rw [hj]
  rw [Array.getD_eq_getD_getElem?] at h
  cases ht : A.tmps[t]? with
  | none => simp [ht]
  | some u =>
    rw [ht] at h
    simp only [Option.getD_some] at h
    subst h
    simp [ht, undef]
theorem at_skip_u {j t : Nat} {b : Bool} (hj : (ops[j]?).bind (·.dst) = some t) (hb : lk t L = some undef)
    (hd : Nat.blt d n = true) (k : At P ops Q rest n ((d, undef) :: L) S w0 Γ) : At P ops Q (⟨some d, op, ty, pos, after, some (j, b)⟩ :: rest) n L S w0 Γ := fun A w hf hs =>
  wpList_step fun K hK => by
    rw [if_neg (by simp [Region.wanted, yielded_undef hf hj hb])]
    exact hK _ _ (k _ _ (hf.put hd _) hs)
theorem dr_skip_u {Γ0 : List Piece} {m fuel : Nat} {listed : Array Bool} (i : Nat) {j t : Nat} {b : Bool} (hi : ops[i]? = some ⟨some d, op, ty, pos, after, some (j, b)⟩) (hj : (ops[j]?).bind (·.dst) = some t) (hl : lk t L = some undef) (hb : takeB ops m listed i = true) (hΓ : Γ0.Sublist Γ)
    (hd : Nat.blt d n = true) (k : Dr P ops Q Γ0 m fuel (listed.setIfInBounds i true) n ((d, undef) :: L) S w0 Γ) : Dr P ops Q Γ0 m (fuel + 1) listed n L S w0 Γ :=
  dr_first hi hb hΓ (fun A hf => .inr ⟨by simp [Region.wanted, yielded_undef hf hj hl], rfl⟩) (fun A w hf hs => k _ _ (hf.put hd undef) hs)

/-! ### 12. The operations -/
theorem pv_ix {t e : TypeId} {len k : Nat} {K : IntKind} {i : Int} (ht : P.underlying t = some (.slice e)) (hm : (Nat.beq (P.cellsOf e) m && !Nat.beq m 0) = true) (hx : ev L x = some (.slice a len cap)) (hy : ev L y = some (.int K i))
    (h : 0 ≤ i ∧ i < len) (hr : Real a len) (hk : i.toNat = k) : Pure P n L C (.indexAddr t x y) ty (.pointer (some ((adr a).add (k * m)))) := by
  have ha := hr.get (by omega)
  rw [ha] at hx
  rw [← hk]
  exact pv_index ht hm hx hy h
theorem pv_elem {T : TypeId} {A : Addr} {p q : Nat} (hT : cellB P T = true) (hx : ev L x = some (.pointer (some ((A.add p).add q)))) (hc : ∀ w, C w → w.cell? (A.add (p + q)) = some v) : Pure P n L C (.load T x) ty v :=
  pv_load hT hx (by intro w hw; rw [add_assoc']; exact hc w hw)
theorem pv_elem0 {T : TypeId} {A : Addr} {p : Nat} (hT : cellB P T = true) (hx : ev L x = some (.pointer (some (A.add p)))) (hc : ∀ w, C w → w.cell? (A.add (p + 0)) = some v) : Pure P n L C (.load T x) ty v :=
  pv_load hT hx hc
theorem pv_elems {T : TypeId} {A : Addr} {p k : Nat} {cs : List Value} (hT : aggB P T k = true) (hx : ev L x = some (.pointer (some (A.add p)))) (hc : ∀ w, C w → ∀ j u, cs[j]? = some u → w.cell? (A.add (p + j)) = some u) (hk : cs.length = k) :
    Pure P n L C (.load T x) ty (.agg cs.toArray) := pv_loads (by rw [hk]; exact hT) hx (by intro w hw j u hj; rw [add_assoc']; exact hc w hw j u hj)
/-- s[:k] -/
theorem pv_cut_to {t e : TypeId} {len k : Nat} {K : IntKind} {i : Int} (ht : P.underlying t = some (.slice e)) (hm : (Nat.beq (P.cellsOf e) m && !Nat.beq m 0) = true) (hx : ev L x = some (.slice a len cap)) (hy : ev L y = some (.int K i))
    (h : 0 ≤ i ∧ i ≤ cap) (hk : i.toNat = k) : Pure P n L C (.slice t x none (some y) none) ty (.slice a k cap) := fun A w _ _ _ _ hf _ => by
  simp only [Bool.and_eq_true, Bool.not_eq_true'] at hm
  have hm1 : P.cellsOf e = m := by simpa using hm.1
  obtain ⟨j, hj1, hj2⟩ := cellsOf_info (P := P) (t := e) (by rw [hm1]; exact hm.2)
  simp only [execOp, Option.map_some, Option.map_none]; rw [hf.at_ hx, hf.at_ hy]
  have hb := run_sliceBound (P := P) (w := w) K i cap .sliceAcap h.1 h.2
  subst hk
  have hv : (Instr.slice t (.slice a len cap) none (some (.int K i)) none).run P w = .ok (.slice a i.toNat cap) w := by
    have h0 : a.map (·.add 0) = a := by cases a <;> simp [Addr.add]
    simp [Instr.slice, run_underlying ht, Instr.sliceBounds, hb, sizeOf, typeInfo, hj1, h0]
  simp only [Instr.sliceAt, Sem.run_bind, run_underlying ht, Result.andThen_ok, hv]
  rfl
/-- s[k:] -/
theorem pv_cut_from {t e : TypeId} {len k : Nat} {K : IntKind} {i : Int} (ht : P.underlying t = some (.slice e)) (hm : (Nat.beq (P.cellsOf e) m && !Nat.beq m 0) = true) (hx : ev L x = some (.slice a len cap)) (hy : ev L y = some (.int K i))
    (h : 0 ≤ i ∧ i ≤ len) (hk : i.toNat = k) : Pure P n L C (.slice t x (some y) none none) ty (.slice (if cap = k then a else a.map (·.add (k * m))) (len - k) (cap - k)) := fun A w _ _ _ _ hf _ => by
  simp only [Bool.and_eq_true, Bool.not_eq_true'] at hm
  have hm1 : P.cellsOf e = m := by simpa using hm.1
  obtain ⟨j, hj1, hj2⟩ := cellsOf_info (P := P) (t := e) (by rw [hm1]; exact hm.2)
  simp only [execOp, Option.map_some, Option.map_none]; rw [hf.at_ hx, hf.at_ hy]
  have hb := run_sliceBound (P := P) (w := w) K i len .sliceB h.1 h.2
  subst hk
  simp [Instr.sliceAt, Instr.slice, run_underlying ht, Instr.sliceBounds, hb, sizeOf, typeInfo, hj1, hj2, hm1]

theorem pv_cut_from' {t e : TypeId} {len k : Nat} {K : IntKind} {i : Int} (ht : P.underlying t = some (.slice e)) (hm : (Nat.beq (P.cellsOf e) m && !Nat.beq m 0) = true) (hx : ev L x = some (.slice a len cap)) (hy : ev L y = some (.int K i))
    (h : 0 ≤ i ∧ i ≤ len) (hk : i.toNat = k) {l : Nat} (hl : len - k = l) : Pure P n L C (.slice t x (some y) none none) ty (.slice (if cap = k then a else a.map (·.add (k * m))) l (cap - k)) := hl ▸ pv_cut_from ht hm hx hy h hk
/-- An empty row of our own costs nothing. -/
theorem St.addNil {e : TypeId} (hs : St S w0 w Γ) : St S w0 w (Γ ++ [RowP enc m e none 0 []]) := by
  refine ⟨hs.keep, ?_, ?_, ?_⟩
  · intro p hp
    rcases List.mem_append.1 hp with hp | hp
    · exact hs.hold p hp
    · simp only [List.mem_singleton] at hp
      subst hp
      exact World.ownsRow_nil _ _ _ _
  · intro p hp k hk
    rcases List.mem_append.1 hp with hp | hp
    · exact hs.ins p hp k hk
    · simp only [List.mem_singleton] at hp
      subst hp
      simp [RowP, blk] at hk
  · refine List.pairwise_append.2 ⟨hs.apart, by simp, ?_⟩
    intro p hp q hq k hk
    simp only [List.mem_singleton] at hq
    subst hq
    simp [RowP, blk]
theorem Cd.addNil {c : Code} (e : TypeId) (enc : α → List Value) (m : Nat) (hΓ : Cat Γ [RowP enc m e none 0 []] Γ') (h : Cd P c Q n L S w0 Γ') : Cd P c Q n L S w0 Γ := fun a w hf hs => h a w hf (hΓ.eq ▸ hs.addNil)

/-- A call that hands back a slice of our own. -/
def Hands (P : Program) (n : Nat) (L : List (Nat × Value)) (S : List Nat) (w0 : World) (Γ : List Piece) (op : Op) (ty : TypeId) (len : Nat) (Γf : Option Addr → Nat → List Piece) : Prop :=
  Does P n L S w0 Γ op ty (X := {z : Option Addr × Nat // Real z.1 len ∧ len ≤ z.2}) (fun z => .slice z.1.1 len z.1.2) (fun z => Γf z.1.1 z.1.2)
theorem at_hands {len : Nat} {Γf : Option Addr → Nat → List Piece} (h : Hands P n L S w0 Γ op ty len Γf) (hd : Nat.blt d n = true) (k : ∀ a c, Real a len → len ≤ c → At P ops Q rest n ((d, .slice a len c) :: L) S w0 (Γf a c)) :
    At P ops Q (⟨some d, op, ty, pos, after, none⟩ :: rest) n L S w0 Γ := at_does h hd fun z => k z.1.1 z.1.2 z.2.1 z.2.2

theorem Sl.cells (h : Sl S enc m w a cap xs) (hm : ∀ z, (enc z).length = m) (hm0 : 0 < m) : ∀ j u, (xs.flatMap enc)[j]? = some u → w.cell? ((adr a).add j) = some u := by
  intro j u hj
  have hl := (List.getElem?_eq_some_iff.1 hj).1
  rw [flatMap_len hm] at hl
  have hi : j / m < xs.length := Nat.div_lt_of_lt_mul (by rw [Nat.mul_comm]; exact hl)
  have hz : xs[j / m]? = some xs[j / m] := List.getElem?_eq_getElem hi
  have hr : j % m < (enc xs[j / m]).length := by rw [hm]; exact Nat.mod_lt _ hm0
  have he : j / m * m + j % m = j := by rw [Nat.mul_comm]; exact Nat.div_add_mod j m
  have h1 := h.cell (j / m) _ hz (j % m) _ (List.getElem?_eq_getElem hr)
  have h2 := flatMap_get hm xs (j / m) _ hz (j % m) _ (List.getElem?_eq_getElem hr)
  rw [he] at h1 h2
  rw [h2] at hj
  cases hj
  exact h1

/-- What has been made is handed back: a part of what we have. -/
theorem Gives.mk' {X : Type} {val : X → Value} {Δ : X → List Piece} (z : X) (hv : v = val z) (hΔ : (Δ z).Sublist Γ) (hs : St [] w0 w Γ) : Gives val Δ w0 (.returned v) w := Gives.mk z hv rfl (hs.sub hΔ)
/-- append(s, t...): s is our own row: as a run. -/
theorem run_append_row {t tyx e : TypeId} {i : TypeInfo} {z0 : Value} {bytes : Nat} {b : Option Addr} {k l cap2 : Nat} {olds news : List Value} (hm0 : 0 < m) (ht : P.underlying t = some (.slice e)) (hi : P.info? e = some i) (hz : i.zero = some z0) (hsz : i.size = m) (hb : i.bytes = bytes) (hzs : z0.cells.size = m)
    (hown : w.ownsRow 0 e m (.slice a k cap) k olds) (hlt : ∀ A, a = some A → A.block < w.heap.size) (hn : news.length = l * m) (hc : ∀ j u, news[j]? = some u → w.cell? ((adr b).add j) = some u) (h1 : ∀ u ∈ news, u.oneCell' = true) (hreal : Real b l) (hcap2 : b = none → cap2 = 0)
    (b1 : k + l ≤ maxLen) (b2 : (k + l) * bytes ≤ 140737488355328) :
    ∃ a' c' w', (Builtin.append_ #[t, t] tyx #[.slice a k cap, .slice b l cap2]).run P w = .ok (.slice a' (k + l) c') w' ∧ w'.ownsRow 0 e m (.slice a' (k + l) c') (k + l) (olds ++ news) ∧ w.grownBy w' (Value.ownBlock (.slice a k cap)) ∧
      (∀ A, a' = some A → (a = some A ∨ w.heap.size ≤ A.block) ∧ A.block < w'.heap.size) := by
  have fin : ∀ (base : Nat) (v' : Value) (w' : World), w'.ownsRow base e m v' (k + l) (olds ++ news) → ∃ a' c', v' = .slice a' (k + l) c' ∧ w'.ownsRow 0 e m v' (k + l) (olds ++ news) ∧ ∀ A, a' = some A → base ≤ A.block ∧ A.block < w'.heap.size := by
    intro base v' w' h
    rcases h.2 with ⟨rfl, e2⟩ | ⟨g, c, cur, rfl, h2, h3, h4⟩
    · exact ⟨none, 0, by rw [e2], ⟨h.1, .inl ⟨rfl, e2⟩⟩, by simp⟩
    · exact ⟨_, c, rfl, ⟨h.1, .inr ⟨g, c, cur, rfl, Nat.zero_le _, h3, h4⟩⟩, fun A hA => by
        simp only [Option.some.injEq] at hA
        subst hA
        exact ⟨h2, (Array.getElem?_eq_some_iff.1 h3).1⟩⟩
  cases b with
  | none =>
    have hl : l = 0 := by rcases hreal with h | h <;> first | exact h | cases h
    obtain rfl := hcap2 rfl
    subst hl
    have hnn : news = [] := List.eq_nil_of_length_eq_zero (by simpa using hn)
    subst hnn
    exact ⟨a, cap, w, run_append_owned_none (P := P) w 0 t tyx e i m ht hi _ k olds hown, by simpa using hown, ⟨rfl, rfl, rfl, Nat.le_refl _, fun _ _ _ => rfl⟩, fun A hA => ⟨.inl hA, hlt A hA⟩⟩
  | some ad =>
    have hc' : ∀ j u, news[j]? = some u → w.cell? (ad.add j) = some u := hc
    rcases hown.2 with ⟨e1, e2⟩ | ⟨g, c, cur, e1, _, hg, hkc, hcm, hcs, htk⟩
    · simp only [Value.slice.injEq] at e1
      obtain ⟨rfl, rfl, rfl⟩ := e1
      have ho : olds = [] := List.eq_nil_of_length_eq_zero (by simpa using hown.1)
      subst ho
      obtain ⟨v', w', r1, r2, r3, _⟩ := run_append_own (P := P) w w.heap.size t tyx e i z0 m bytes ht hi hz hsz hb hzs hm0 (.slice none 0 0) 0 [] (World.ownsRow_nil w _ e m) ad l cap2 news hn hc' h1 b1 b2 (Nat.le_refl _)
      obtain ⟨a', c', rfl, r4, r5⟩ := fin _ v' w' r2
      exact ⟨a', c', w', r1, r4, r3, fun A hA => ⟨.inr (r5 A hA).1, (r5 A hA).2⟩⟩
    · simp only [Value.slice.injEq] at e1
      obtain ⟨rfl, _, rfl⟩ := e1
      by_cases hr : k + l ≤ cap
      · obtain ⟨v', w', r1, r2, r3, _⟩ := run_append_own (P := P) w 0 t tyx e i z0 m bytes ht hi hz hsz hb hzs hm0 _ k olds hown ad l cap2 news hn hc' h1 b1 b2 (Nat.zero_le _)
        have hfit : k * m + news.length ≤ cur.size := by rw [hn, hcs, ← Nat.add_mul]; exact Nat.mul_le_mul_right _ hr
        have r0 := run_append_room_cells (P := P) w t tyx e i ht hi g 0 k cap ad l cap2 news (by rw [hsz]; exact hn) hc' h1 hr
          (fun j hj => by
            have hx : 0 + k * i.size + j < cur.size := by rw [hsz]; omega
            have hx' : k * i.size + j < cur.size := by omega
            simp [World.cell?, hg, hx'])
          (fun j hj => by simp [World.frozen?, hg])
        rw [r0] at r1
        simp only [Result.ok.injEq] at r1
        obtain ⟨rfl, rfl⟩ := r1
        obtain ⟨a', c', e1, r4, r5⟩ := fin _ _ _ r2
        simp only [Value.slice.injEq] at e1
        obtain ⟨rfl, _, rfl⟩ := e1
        exact ⟨_, _, _, r0, r4, r3, fun A hA => ⟨.inl hA, (r5 A hA).2⟩⟩
      · have holds : ∀ j u, olds[j]? = some u → w.cell? (Addr.add ⟨g, 0, none⟩ j) = some u := fun j u hj => by
          rw [Addr.add_lit, Nat.zero_add]
          rw [World.ownsRow.cellAt (h := hown) j (by have := (List.getElem?_eq_some_iff.1 hj).1; rw [hown.1] at this; exact this)]
          exact hj
        obtain ⟨v', w', r1, r2, r3⟩ := run_append_arg_grows (P := P) w t tyx e i z0 m bytes ht hi hz hsz hb hzs hm0 ⟨g, 0, none⟩ k cap olds hown.1 holds ad l cap2 news hn hc' (by omega) b1 b2
        obtain ⟨a', c', rfl, r4, r5⟩ := fin _ v' w' r2
        exact ⟨a', c', w', r1, r4, ⟨r3.os, r3.tape, r3.output, r3.size, fun j hj _ => r3.block j hj (by simp)⟩, fun A hA => ⟨.inr (r5 A hA).1, (r5 A hA).2⟩⟩

/-- The same, as a rule. -/
theorem does_append {t e : TypeId} {i : TypeInfo} {z0 : Value} {bytes k : Nat} {b : Option Addr} {cap2 : Nat} {zs ys : List α} {Γf : Option Addr → Nat → List Piece} {at_ : Array TypeId}
    (hm : ∀ z : α, (enc z).length = m) (hm0 : 0 < m) (h1 : ∀ z : α, ∀ u ∈ enc z, u.oneCell' = true) (ht : P.underlying t = some (.slice e)) (hi : P.info? e = some i) (hz : i.zero = some z0) (hsz : i.size = m) (hb : i.bytes = bytes) (hbs : bytes ≤ 256) (hzs : z0.cells.size = m) (hat : at_ = #[t, t])
    (hx : ev L x = some (.slice a zs.length cap)) (hy : ev L y = some (.slice b ys.length cap2)) (hin : Nth Γ k (RowP enc m e a cap zs)) (hsrc : ∀ w, St S w0 w Γ → Sl [] enc m w b cap2 ys) (hlen : zs.length + ys.length ≤ 100000000)
    (hnil : b = none → cap2 = 0) (hch : ∀ a' c', Chg Γ k (RowP enc m e a' c' (zs ++ ys)) (Γf a' c')) : Hands P n L S w0 Γ (.call ⟨.builtin .append, #[x, y], at_⟩) ty (zs ++ ys).length Γf := fun A w dst pos after g hf hs => by
  subst hat
  have hown := hs.piece hin.get
  have hS := hsrc w hs
  have hmax : zs.length + ys.length ≤ maxLen := by simp [maxLen]; omega
  have hbb : (zs.length + ys.length) * bytes ≤ 140737488355328 := Nat.le_trans (Nat.mul_le_mul hlen hbs) (by omega)
  obtain ⟨a', c', w', r1, r2, r3, r4⟩ := run_append_row (tyx := ty) hm0 ht hi hz hsz hb hzs hown
    (fun A hA => by subst hA; exact (hs.ins _ (List.mem_of_getElem? hin.get) A.block (by simp [RowP, blk])).1) (flatMap_len hm ys) (hS.cells hm hm0)
    (fun u hu => by obtain ⟨z, _, hz⟩ := List.mem_flatMap.1 hu; exact h1 z u hz) hS.real hnil hmax hbb
  have hll : (zs ++ ys).length = zs.length + ys.length := List.length_append
  rw [← hll] at r1 r2
  left
  refine ⟨⟨(a', c'), ?_⟩, w', ?_, ?_⟩
  · rcases r2.2 with ⟨e1, e2⟩ | ⟨g, c1, cur, e1, _, _, e3, _⟩
    · simp only [Value.slice.injEq] at e1
      exact ⟨.inl e2, by show (zs ++ ys).length ≤ c'; omega⟩
    · simp only [Value.slice.injEq] at e1
      obtain ⟨rfl, _, rfl⟩ := e1
      exact ⟨.inr rfl, e3⟩
  · simp only [execOp, resolve]
    rw [show (#[x, y] : Array Operand).map A.eval = #[A.eval x, A.eval y] by simp, hf.at_ hx, hf.at_ hy]
    simp [invoke, builtin, r1]
  · show St S w0 w' (Γf a' c')
    rw [← (hch a' c').eq]
    refine hs.turn hin.get ?_ ?_ ?_
    · refine ⟨r3.os, r3.tape, r3.output, r3.size, fun j hj hn => r3.block j hj ?_⟩
      intro e1
      apply hn
      cases a with
      | none => simp [Value.ownBlock] at e1
      | some A0 => simp only [Value.ownBlock, Option.some.injEq] at e1; simp [RowP, blk, e1]
    · show w'.ownsRow 0 e m _ _ _
      rw [List.flatMap_append]
      exact r2
    · intro j hj
      cases a' with
      | none => simp [RowP, blk] at hj
      | some A1 =>
        simp only [RowP, blk, List.mem_singleton] at hj
        subst hj
        obtain ⟨h5, h6⟩ := r4 A1 rfl
        refine ⟨?_, h6⟩
        rcases h5 with h5 | h5
        · subst h5; exact .inl (by simp [RowP, blk])
        · exact .inr h5
def apB (P : Program) (e : TypeId) (m : Nat) : Bool := match P.info? e with
  | some i => match i.zero with
    | some z => Nat.beq i.size m && Nat.ble i.bytes 256 && Nat.beq z.cells.size m
    | none => false
  | none => false
theorem apB_spec {e : TypeId} {m : Nat} (h : apB P e m = true) : ∃ i z, P.info? e = some i ∧ i.zero = some z ∧ i.size = m ∧ i.bytes ≤ 256 ∧ z.cells.size = m := by
  unfold apB at h
  split at h
  · rename_i i hi
    split at h
    · rename_i z hz
      simp only [Bool.and_eq_true, Nat.beq_eq_true_eq, Nat.ble_eq] at h
      exact ⟨i, z, hi, hz, by simpa using h.1.1, h.1.2, by simpa using h.2⟩
    · cases h
  · cases h
theorem does_app {t e : TypeId} {k : Nat} {b : Option Addr} {cap2 : Nat} {zs ys : List α} {Γf : Option Addr → Nat → List Piece} {at_ : Array TypeId}
    (henc : (∀ z : α, (enc z).length = m) ∧ 0 < m ∧ ∀ z : α, ∀ u ∈ enc z, u.oneCell' = true) (ht : P.underlying t = some (.slice e)) (he : apB P e m = true) (hat : at_ = #[t, t])
    (hx : ev L x = some (.slice a zs.length cap)) (hy : ev L y = some (.slice b ys.length cap2)) (hin : Nth Γ k (RowP enc m e a cap zs)) (hsrc : ∀ w, St S w0 w Γ → Sl [] enc m w b cap2 ys) (hlen : zs.length + ys.length ≤ 100000000)
    (hnil : b = none → cap2 = 0) (hch : ∀ a' c', Chg Γ k (RowP enc m e a' c' (zs ++ ys)) (Γf a' c')) : Hands P n L S w0 Γ (.call ⟨.builtin .append, #[x, y], at_⟩) ty (zs ++ ys).length Γf := by
  obtain ⟨i, z, h1, h2, h3, h4, h5⟩ := apB_spec he
  exact does_append henc.1 henc.2.1 henc.2.2 ht h1 h2 h3 rfl h4 h5 hat hx hy hin hsrc hlen hnil hch
end
end Go.Proofs.YtkejdfnpbkdllaaV
