/- The rules of the walk: operations that make or write memory, calls, statements whose order is open. No program is named here. -/
import Derived.Test.YtkejdfnpbkdllaaVB
namespace Go.Proofs.YtkejdfnpbkdllaaV
open Go Go.RowKit
set_option linter.unusedVariables false
set_option linter.unusedSimpArgs false

/-! ### 6. Variables -/
/-- Block g is a variable of type T that holds cs. -/
def Box (g : Nat) (cs : List Value) (T : TypeId) : Piece :=
  ⟨[g], fun w => w.heap[g]? = some (.cells cs.toArray T (0, 0)), fun w w' h hp => (h g (by simp)).trans hp⟩

section
variable {P : Program} {S : List Nat} {w0 w w' : World} {Γ Γ' : List Piece} {L L' : List (Nat × Value)} {n : Nat} {ops : Array Oper} {rest : List Oper} {Q : Exit → Act → World → Prop} {o : Oper} {d : Nat} {v : Value}
variable {ty : TypeId} {x y c : Operand} {pos : String} {after : Array Edge} {op : Op}

/-! Lists that are written out: what stands where, as relations that follow the writing. -/
inductive Nth {α : Type} : List α → Nat → α → Prop
  | z {p : α} {l : List α} : Nth (p :: l) 0 p
  | s {p q : α} {l : List α} {i : Nat} (h : Nth l i p) : Nth (q :: l) (i + 1) p
theorem Nth.get {α : Type} {l : List α} {i : Nat} {p : α} (h : Nth l i p) : l[i]? = some p := by induction h <;> simp_all
inductive Cat : List Piece → List Piece → List Piece → Prop
  | nil {Δ : List Piece} : Cat [] Δ Δ
  | cons {x : Piece} {l Δ m : List Piece} (h : Cat l Δ m) : Cat (x :: l) Δ (x :: m)
theorem Cat.eq {l Δ m : List Piece} (h : Cat l Δ m) : l ++ Δ = m := by induction h <;> simp_all
inductive Chg : List Piece → Nat → Piece → List Piece → Prop
  | z {p q : Piece} {l : List Piece} : Chg (p :: l) 0 q (q :: l)
  | s {x q : Piece} {l m : List Piece} {i : Nat} (h : Chg l i q m) : Chg (x :: l) (i + 1) q (x :: m)
theorem Chg.eq {l m : List Piece} {i : Nat} {q : Piece} (h : Chg l i q m) : l.set i q = m := by induction h <;> simp_all
inductive Over : List Value → Nat → List Value → List Value → Prop
  | skip {c : Value} {cs us ds : List Value} {off : Nat} (h : Over cs off us ds) : Over (c :: cs) (off + 1) us (c :: ds)
  | rep {c u : Value} {cs us ds : List Value} (h : Over cs 0 us ds) : Over (c :: cs) 0 (u :: us) (u :: ds)
  | done {cs : List Value} : Over cs 0 [] cs
inductive Part : List Value → Nat → Nat → List Value → Prop
  | skip {c : Value} {cs us : List Value} {off m : Nat} (h : Part cs off m us) : Part (c :: cs) (off + 1) m us
  | take {c : Value} {cs us : List Value} {m : Nat} (h : Part cs 0 m us) : Part (c :: cs) 0 (m + 1) (c :: us)
  | done {cs : List Value} : Part cs 0 0 []
theorem Part.eq {cs us : List Value} {off m : Nat} (h : Part cs off m us) : (cs.drop off).take m = us ∧ us.length = m := by induction h <;> simp_all
inductive CellsOf : Value → List Value → Prop
  | agg {us : List Value} : CellsOf (.agg us.toArray) us
  | one {v : Value} (h : v.cells.toList = [v]) : CellsOf v [v]
theorem CellsOf.eq {v : Value} {us : List Value} (h : CellsOf v us) : v.cells.toList = us := by
  cases h
  · rfl
  · assumption

theorem St.piece {i : Nat} {p : Piece} (hs : St S w0 w Γ) (hi : Γ[i]? = some p) : p.pred w := hs.hold p (List.mem_of_getElem? hi)
theorem St.box {i g : Nat} {cs : List Value} {T : TypeId} (hi : Γ[i]? = some (Box g cs T)) (hs : St S w0 w Γ) : w.heap[g]? = some (.cells cs.toArray T (0, 0)) := hs.piece hi
theorem cell_of_block {g off : Nat} {cs : List Value} {T : TypeId} {fz : Nat × Nat} (h : w.heap[g]? = some (.cells cs.toArray T fz)) (hv : cs[off]? = some v) : w.cell? ⟨g, off, none⟩ = some v := by
  simp [World.cell?, h, hv]
/-- A cell of a variable. -/
theorem box_cell {i g off : Nat} {cs : List Value} {T : TypeId} (hi : Nth Γ i (Box g cs T)) (hv : Nth cs off v) : ∀ w, St S w0 w Γ → w.cell? ⟨g, off, none⟩ = some v := fun w hs => cell_of_block (hs.box hi.get) hv.get
/-- Cells of a variable, from one on. -/
theorem box_cells {i g off : Nat} {cs us : List Value} {T : TypeId} (hi : Γ[i]? = some (Box g cs T)) (hu : (cs.drop off).take us.length = us) :
    ∀ w, St S w0 w Γ → ∀ j u, us[j]? = some u → w.cell? ((⟨g, off, none⟩ : Addr).add j) = some u := fun w hs j u hj => by
  rw [Addr.add_lit]
  refine cell_of_block (hs.box hi) ?_
  rw [← hu, List.getElem?_take] at hj
  split at hj
  · simpa using hj
  · cases hj
/-- A whole value is read out of a variable. -/
theorem pv_loads_box {T T' : TypeId} {i g off m : Nat} {cs us : List Value} (hT : aggB P T m = true) (hx : ev L x = some (.pointer (some ⟨g, off, none⟩))) (hi : Nth Γ i (Box g cs T')) (hu : Part cs off m us) :
    Pure P n L (fun w => St S w0 w Γ) (.load T x) ty (.agg us.toArray) := pv_loads (by rw [hu.eq.2]; exact hT) hx (box_cells hi.get (by rw [hu.eq.2]; exact hu.eq.1))
/-- A cell of old memory. -/
theorem old_cell {p : Addr} (h0 : w0.cell? p = some v) (hp : p.block ∉ S) : ∀ w, St S w0 w Γ → w.cell? p = some v := fun w hs => hs.keep.cell hp h0

/-! ### 7. What an operation does -/
/-- In every such state the operation yields 'val x' for some x, and the pieces are then 'Γf x'. -/
def Does (P : Program) (n : Nat) (L : List (Nat × Value)) (S : List Nat) (w0 : World) (Γ : List Piece) (op : Op) (ty : TypeId) {X : Type} (val : X → Value) (Γf : X → List Piece) : Prop :=
  ∀ a w dst pos after g, Fr a n L → St S w0 w Γ →
    (∃ x w', (execOp a.eval ⟨dst, op, ty, pos, after, g⟩).run P w = .ok (.value (val x)) w' ∧ St S w0 w' (Γf x)) ∨
    (∃ f args, (execOp a.eval ⟨dst, op, ty, pos, after, g⟩).run P w = .ok (.enter f args) w ∧ Calls P f args w fun e w' => ∃ x, e = .returned (val x) ∧ St S w0 w' (Γf x))

theorem Pure.does (h : Pure P n L (fun w => St S w0 w Γ) op ty v) : Does P n L S w0 Γ op ty (fun _ : Unit => v) (fun _ => Γ) := fun a w dst pos after g hf hs =>
  .inl ⟨(), w, h a w dst pos after g hf hs, hs⟩

theorem does_wp {X : Type} {val : X → Value} {Γf : X → List Piece} {g : Option (Nat × Bool)} {a : Act} {K : Act → World → Prop} (h : Does P n L S w0 Γ op ty val Γf) (hf : Fr a n L) (hs : St S w0 w Γ)
    (hk : ∀ x w', St S w0 w' (Γf x) → K (a.put (some d) (val x)) w') : Oper.wp P ⟨some d, op, ty, pos, after, g⟩ a w K Q := by
  unfold Oper.wp
  rcases h a w (some d) pos after g hf hs with ⟨x, w', hr, hs'⟩ | ⟨f, args, hr, hc⟩
  · rw [hr]; exact hk x w' hs'
  · rw [hr]
    refine hc.mono fun e w' he => ?_
    obtain ⟨x, rfl, hs'⟩ := he
    exact hk x w' hs'

theorem at_does {X : Type} {val : X → Value} {Γf : X → List Piece} (h : Does P n L S w0 Γ op ty val Γf) (hd : Nat.blt d n = true) (k : ∀ x, At P ops Q rest n ((d, val x) :: L) S w0 (Γf x)) :
    At P ops Q (⟨some d, op, ty, pos, after, none⟩ :: rest) n L S w0 Γ := fun a w hf hs =>
  wpList_plain rfl fun K hK => does_wp h hf hs fun x w' hs' => hK _ _ (k x _ _ (hf.put hd _) hs')
theorem at_does_g {X : Type} {val : X → Value} {Γf : X → List Piece} {j t : Nat} {b b' : Bool} (hj : (ops[j]?).bind (·.dst) = some t) (hb' : lk t L = some (.bool b')) (he : b' = b) (h : Does P n L S w0 Γ op ty val Γf)
    (hd : Nat.blt d n = true) (k : ∀ x, At P ops Q rest n ((d, val x) :: L) S w0 (Γf x)) : At P ops Q (⟨some d, op, ty, pos, after, some (j, b)⟩ :: rest) n L S w0 Γ := fun a w hf hs =>
  wpList_step fun K hK => by
    have hb : lk t L = some (.bool b) := by rw [hb', he]
    rw [if_pos (by simp [Region.wanted, yielded_of hf hj hb])]
    exact does_wp h hf hs fun x w' hs' => hK _ _ (k x _ _ (hf.put hd _) hs')

/-- An operation that yields nothing and turns memory. -/
def Turns (P : Program) (n : Nat) (L : List (Nat × Value)) (S : List Nat) (w0 : World) (Γ : List Piece) (op : Op) (ty : TypeId) (Γ' : List Piece) : Prop :=
  ∀ a w dst pos after g, Fr a n L → St S w0 w Γ → ∃ w', (execOp a.eval ⟨dst, op, ty, pos, after, g⟩).run P w = .ok .skip w' ∧ St S w0 w' Γ'
theorem at_turns (h : Turns P n L S w0 Γ op ty Γ') (k : At P ops Q rest n L S w0 Γ') : At P ops Q (⟨none, op, ty, pos, after, none⟩ :: rest) n L S w0 Γ := fun a w hf hs =>
  wpList_plain rfl fun K hK => by
    obtain ⟨w', hr, hs'⟩ := h a w none pos after none hf hs
    unfold Oper.wp
    rw [hr]
    exact hK _ _ (k _ _ hf hs')

/-! ### 8. New variables, stores -/
theorem St.newBox (hs : St S w0 w Γ) (cs : List Value) (T : TypeId) : St S w0 (w.alloc (.cells cs.toArray T (0, 0))) (Γ ++ [Box w.heap.size cs T]) := by
  refine hs.new (.of_below ((Below.refl _ _).alloc (Nat.le_refl _) _)) ⟨?_, ?_, by simp⟩
  · intro p hp
    simp only [List.mem_singleton] at hp
    subst hp
    exact (MapKept.heap_alloc w _).1
  · intro p hp k hk
    simp only [List.mem_singleton] at hp
    subst hp
    simp only [Box, List.mem_singleton] at hk
    subst hk
    simp

theorem does_box {T : TypeId} {cs : List Value} {Γg : Nat → List Piece} (hx : ev L x = some v) (hc : CellsOf v cs) (hΓ : ∀ g, Cat Γ [Box g cs T] (Γg g)) : Does P n L S w0 Γ (.box T x) ty (fun g : Nat => .pointer (some ⟨g, 0, none⟩)) Γg := fun a w dst pos after g hf hs =>
  .inl ⟨w.heap.size, _, by
    have hc' : v.cells = cs.toArray := by rw [← hc.eq]
    simp only [execOp]; rw [hf.at_ hx]
    simp only [Instr.box, newVar, newRow, newObj, hc']
    rfl, (hΓ w.heap.size).eq ▸ hs.newBox cs T⟩
theorem does_alloc {T : TypeId} {z : Value} {cs : List Value} {Γg : Nat → List Piece} (hz : (P.info? T).bind (·.zero) = some z) (hc : CellsOf z cs) (hΓ : ∀ g, Cat Γ [Box g cs T] (Γg g)) : Does P n L S w0 Γ (.alloc T) ty (fun g : Nat => .pointer (some ⟨g, 0, none⟩)) Γg := fun a w dst pos after g hf hs =>
  .inl ⟨w.heap.size, w.alloc (.cells cs.toArray T (0, 0)), by
    obtain ⟨i, h1, h2⟩ := Option.bind_eq_some_iff.1 hz
    have hc' : z.cells = cs.toArray := by rw [← hc.eq]
    have h3 : (zeroValue T).run P w = .ok z w := by simp [zeroValue, typeInfo, h1, h2]
    have h4 : (Instr.alloc T true (.tuple #[])).run P w = .ok (.pointer (some ⟨w.heap.size, 0, none⟩)) (w.alloc (.cells cs.toArray T (0, 0))) := by
      unfold Instr.alloc
      rw [Sem.run_bind, h3]
      rw [← hc']
      rfl
    simp only [execOp]
    rw [Sem.run_bind, h4]
    rfl, (hΓ w.heap.size).eq ▸ hs.newBox cs T⟩

/-- The cells from off on are written over by us. -/
def putAt (cs : List Value) (off : Nat) (us : List Value) : List Value := cs.take off ++ us ++ cs.drop (off + us.length)

theorem putAt_nil (cs : List Value) (off : Nat) : putAt cs off [] = cs := by simp [putAt]
theorem putAt_cons (cs : List Value) (off : Nat) (u : Value) (us : List Value) (h : off < cs.length) : putAt (cs.set off u) (off + 1) us = putAt cs off (u :: us) := by
  have e : cs.set off u = cs.take off ++ u :: cs.drop (off + 1) := by rw [List.set_eq_take_append_cons_drop, if_pos h]
  have l1 : (cs.take off).length = off := by simp; omega
  have e1 : (cs.set off u).take (off + 1) = cs.take off ++ [u] := by
    rw [e, List.take_append, l1, show off + 1 - off = 1 by omega, List.take_of_length_le (by omega)]
    simp
  have e2 : (cs.set off u).drop (off + 1 + us.length) = cs.drop (off + (us.length + 1)) := by
    rw [List.drop_set_of_lt (by omega)]
    congr 1
    omega
  unfold putAt
  rw [e1, e2]
  simp

theorem Over.eq {cs us ds : List Value} {off : Nat} (h : Over cs off us ds) : putAt cs off us = ds ∧ off + us.length ≤ cs.length := by
  induction h with
  | skip h ih => refine ⟨?_, by simp; omega⟩; rw [← ih.1]; simp [putAt, Nat.add_right_comm _ 1]
  | rep h ih => refine ⟨?_, by simp; omega⟩; rw [← ih.1]; simp [putAt]
  | done => simp [putAt]

theorem run_storeCells_block (P : Program) (g : Nat) (T : TypeId) : ∀ (us : List Value) (i off : Nat) (cs : List Value) (w : World), w.heap[g]? = some (.cells cs.toArray T (0, 0)) → off + i + us.length ≤ cs.length → (∀ u ∈ us, u.oneCell' = true) →
    ∃ w', (storeCells ⟨g, off, none⟩ us i).run P w = .ok () w' ∧ Keep [g] w w' ∧ w'.heap[g]? = some (.cells (putAt cs (off + i) us).toArray T (0, 0)) ∧ w'.heap.size = w.heap.size
  | [], i, off, cs, w, hg, hl, h1 => ⟨w, rfl, .refl _ _, by simpa [putAt_nil] using hg, rfl⟩
  | u :: us, i, off, cs, w, hg, hl, h1 => by
    simp only [List.length_cons] at hl
    have hlt : off + i < cs.length := by omega
    have hc : w.cell? ⟨g, off + i, none⟩ = some cs[off + i] := cell_of_block hg (List.getElem?_eq_getElem hlt)
    have hfz : w.frozen? ⟨g, off + i, none⟩ = false := by simp [World.frozen?, hg]
    have hr := run_store P w ⟨g, off + i, none⟩ u .plain (h1 u (by simp))
    rw [hc] at hr
    simp only [hfz] at hr
    have hset : (w.setCell ⟨g, off + i, none⟩ u).heap[g]? = some (.cells (cs.set (off + i) u).toArray T (0, 0)) := by
      have hm := congrArg (fun o => o) hg
      simp only [World.setCell, Array.getElem?_modify, hg]
      simp
    have hk : Keep [g] w (w.setCell ⟨g, off + i, none⟩ u) := ⟨rfl, rfl, rfl, by simp [World.setCell], fun k hk hn => Below.heap_setCell _ _ _ _ (by simpa using hn)⟩
    obtain ⟨w', r1, r2, r3, r4⟩ := run_storeCells_block P g T us (i + 1) off (cs.set (off + i) u) (w.setCell ⟨g, off + i, none⟩ u) hset (by simp; omega) (fun z hz => h1 z (by simp [hz]))
    refine ⟨w', ?_, hk.trans r2, ?_, by rw [r4]; simp [World.setCell]⟩
    · unfold storeCells
      rw [Addr.add_lit]
      simp [hr, r1]
    · rw [r3, show off + (i + 1) = off + i + 1 by omega, putAt_cons cs (off + i) u us hlt]

theorem turns_store {T T' : TypeId} {i g off m : Nat} {cs us cs' : List Value} (hT' : (Nat.beq (P.cellsOf T) m && !Nat.beq m 0) = true) (hx : ev L x = some (.pointer (some ⟨g, off, none⟩))) (hy : ev L y = some v) (hvc : CellsOf v us) (hm : us.length = m)
    (h1 : us.all Value.oneCell' = true) (hin : Nth Γ i (Box g cs T')) (ho : Over cs off us cs') (hch : Chg Γ i (Box g cs' T') Γ') : Turns P n L S w0 Γ (.store T x y) ty Γ' := fun a w dst pos after gd hf hs => by
  have hv := hvc.eq
  have hi := hin.get
  have hp := ho.eq.1
  have hl : Nat.ble (off + us.length) cs.length = true := by simpa using ho.eq.2
  have hT : (Nat.beq (P.cellsOf T) us.length && !Nat.beq us.length 0) = true := by rw [hm]; exact hT'
  simp only [Bool.and_eq_true, Bool.not_eq_true'] at hT
  have hT1 : P.cellsOf T = us.length := by simpa using hT.1
  obtain ⟨j, hj1, hj2⟩ := cellsOf_info (P := P) (t := T) (by rw [hT1]; exact hT.2)
  have hsz : j.size = us.length := hj2.trans hT1
  have hl' : off + us.length ≤ cs.length := by simpa using hl
  obtain ⟨w', r1, r2, r3, r4⟩ := run_storeCells_block P g T' us 0 off cs w (hs.box hi) (by omega) (fun u hu => List.all_eq_true.1 h1 u hu)
  refine ⟨w', ?_, hch.eq ▸ hs.turn hi r2 ?_ ?_⟩
  · simp only [execOp]; rw [hf.at_ hx, hf.at_ hy]
    have hcs : v.cells.size = us.length := by rw [← Array.length_toList, hv]
    simp [Instr.storeAt, Instr.sureAddr, storeVar, sizeOf, typeInfo, hj1, hsz, hcs, hv, r1]
  · show w'.heap[g]? = _
    rw [r3]
    simp only [Nat.add_zero]
    rw [hp]
  · intro k hk
    simp only [Box, List.mem_singleton] at hk
    subst hk
    refine ⟨.inl (by simp [Box]), ?_⟩
    rw [r4]
    exact (hs.ins _ (List.mem_of_getElem? hi) k (by simp [Box])).1

/-! ### 8b. Results that lie in memory -/
theorem run_loadVar_agg {T : TypeId} {p : Addr} {cs : List Value} (hT : aggB P T cs.length = true) (hc : ∀ j u, cs[j]? = some u → w.cell? (p.add j) = some u) : (loadVar T p).run P w = .ok (.agg cs.toArray) w := by
  simp only [aggB, Bool.and_eq_true, Bool.not_eq_true'] at hT
  obtain ⟨⟨hA, hB⟩, hD⟩ := hT
  have hB' : P.cellsOf T = cs.length := by simpa using hB
  obtain ⟨i, h3, h4⟩ := cellsOf_info (P := P) (t := T) (by rw [hB']; exact hD)
  have h5 : (isAgg T).run P w = .ok true w := by
    unfold isAgg
    cases h1 : P.underlying T with
    | none => rw [h1] at hA; cases hA
    | some d => rw [h1] at hA; cases d <;> simp_all [run_underlying h1]
  have h6 := run_loadCells_list (P := P) (w := w) p cs hc
  simp [loadVar, h5, sizeOf, typeInfo, h3, h4, hB', h6]
/-- A result in memory: the variable at the pointer in slot t. -/
structure Lies (P : Program) (L : List (Nat × Value)) (S : List Nat) (w0 : World) (Γ : List Piece) (t : Nat) (T : TypeId) (cs : List Value) : Prop where
  ex : ∃ p, lk t L = some (.pointer (some p)) ∧ ∀ w, St S w0 w Γ → (loadVar T p).run P w = .ok (.agg cs.toArray) w
theorem Lies.box {t T T' : Nat} {i g m : Nat} {cs : List Value} (hT : aggB P T m = true) (hl : lk t L = some (.pointer (some ⟨g, 0, none⟩))) (hi : Nth Γ i (Box g cs T')) (hm : cs.length = m) : Lies P L S w0 Γ t T cs :=
  ⟨_, hl, fun w hs => run_loadVar_agg (by rw [hm]; exact hT) (box_cells hi.get (by simp) w hs)⟩
theorem Fr.g' {a : Act} (h : Fr a n L) (t : Nat) (v : Value) (e : lk t L = some v) : a.tmps[t]?.getD undef = v := by rw [← Array.getD_eq_getD_getElem?]; exact h.g t v e
variable {fn : Func} {R : Ending → World → Prop}
theorem end_c {t T : Nat} {cs : List Value} (hr : fn.results = #[.cell t T]) (h1 : Lies P L S w0 Γ t T cs) (h : ∀ w, St S w0 w Γ → R (.returned (.agg cs.toArray)) w) : Ex (bodyPost P fn R) .ret n L S w0 Γ :=
  end_ret (fun a w hf hs => by
    obtain ⟨p, e1, e2⟩ := h1.ex
    simp [results, hr, hf.g' t _ e1, asAddr, e2 w hs]) h
theorem end_ct {t T u : Nat} {cs : List Value} {v : Value} (hr : fn.results = #[.cell t T, .tmp u]) (h1 : Lies P L S w0 Γ t T cs) (h2 : lk u L = some v) (h : ∀ w, St S w0 w Γ → R (.returned (.tuple #[.agg cs.toArray, v])) w) : Ex (bodyPost P fn R) .ret n L S w0 Γ :=
  end_ret (fun a w hf hs => by
    obtain ⟨p, e1, e2⟩ := h1.ex
    simp [results, hr, hf.g' t _ e1, hf.g' u _ h2, asAddr, e2 w hs]) h
theorem end_cc {t T u U : Nat} {cs ds : List Value} (hr : fn.results = #[.cell t T, .cell u U]) (h1 : Lies P L S w0 Γ t T cs) (h2 : Lies P L S w0 Γ u U ds) (h : ∀ w, St S w0 w Γ → R (.returned (.tuple #[.agg cs.toArray, .agg ds.toArray])) w) : Ex (bodyPost P fn R) .ret n L S w0 Γ :=
  end_ret (fun a w hf hs => by
    obtain ⟨p, e1, e2⟩ := h1.ex
    obtain ⟨q, e3, e4⟩ := h2.ex
    simp [results, hr, hf.g' t _ e1, hf.g' u _ e3, asAddr, e2 w hs, e4 w hs]) h
theorem end_cct {t T u U z : Nat} {cs ds : List Value} {v : Value} (hr : fn.results = #[.cell t T, .cell u U, .tmp z]) (h1 : Lies P L S w0 Γ t T cs) (h2 : Lies P L S w0 Γ u U ds) (h3 : lk z L = some v) (h : ∀ w, St S w0 w Γ → R (.returned (.tuple #[.agg cs.toArray, .agg ds.toArray, v])) w) : Ex (bodyPost P fn R) .ret n L S w0 Γ :=
  end_ret (fun a w hf hs => by
    obtain ⟨p, e1, e2⟩ := h1.ex
    obtain ⟨q, e3, e4⟩ := h2.ex
    simp [results, hr, hf.g' t _ e1, hf.g' u _ e3, hf.g' z _ h3, asAddr, e2 w hs, e4 w hs]) h
theorem end_ctt {t T u z : Nat} {cs : List Value} {v v' : Value} (hr : fn.results = #[.cell t T, .tmp u, .tmp z]) (h1 : Lies P L S w0 Γ t T cs) (h2 : lk u L = some v) (h3 : lk z L = some v') (h : ∀ w, St S w0 w Γ → R (.returned (.tuple #[.agg cs.toArray, v, v'])) w) : Ex (bodyPost P fn R) .ret n L S w0 Γ :=
  end_ret (fun a w hf hs => by
    obtain ⟨p, e1, e2⟩ := h1.ex
    simp [results, hr, hf.g' t _ e1, hf.g' u _ h2, hf.g' z _ h3, asAddr, e2 w hs]) h

/-! ### 9. Calls -/
def Callable (P : Program) (f : FuncId) : Prop := ∃ fn, P.funcs[f]? = some fn ∧ (fn.name == "runtime.NumGoroutine") = false ∧ fn.body.isNone = false

theorem run_call {f : FuncId} {us caps : Array Value} {vs : List Value} {xs : Array Operand} {tys : Array TypeId} {a : Act} {dst : Option Tmp} {g : Option (Nat × Bool)} (hf : Callable P f) (hfr : Fr a n L) (hx : ev L x = some (.func (.func f) us caps))
    (hargs : evs L xs.toList = some vs) {args : List Value} (he : us.toList ++ vs ++ caps.toList = args) (w : World) : (execOp a.eval ⟨dst, .call ⟨.value x, xs, tys⟩, ty, pos, after, g⟩).run P w = .ok (.enter f args.toArray) w := by
  obtain ⟨fn, h1, h2, h3⟩ := hf
  have e1 : xs.map a.eval = vs.toArray := by apply Array.ext'; rw [Array.toList_map, hfr.ats hargs]
  have e2 : us ++ vs.toArray ++ caps = args.toArray := by apply Array.ext'; simp [← he]
  simp only [execOp, resolve]
  rw [hfr.at_ hx, e1]
  have h2' : ¬ fn.name = "runtime.NumGoroutine" := by intro e; rw [e] at h2; simp at h2
  have h3' : ¬ fn.body = none := by intro e; rw [e] at h3; simp at h3
  simp [Deferred.ofValue, invoke, callFunc, h1, h2', h3', e2, program, Sem.run]

theorem does_call {X : Type} {val : X → Value} {Γf : X → List Piece} {f : FuncId} {us caps : Array Value} {vs args : List Value} {xs : Array Operand} {tys : Array TypeId} (hf : Callable P f) (hx : ev L x = some (.func (.func f) us caps)) (hargs : evs L xs.toList = some vs)
    (he : us.toList ++ vs ++ caps.toList = args) (hc : ∀ w, St S w0 w Γ → Calls P f args.toArray w fun e w' => ∃ x, e = .returned (val x) ∧ St S w0 w' (Γf x)) : Does P n L S w0 Γ (.call ⟨.value x, xs, tys⟩) ty val Γf := fun a w dst pos after g hfr hs =>
  .inr ⟨f, args.toArray, run_call hf hfr hx hargs he w, hc w hs⟩

/-- What a call hands back that leaves old memory alone. -/
def Val (v : Value) (w : World) : Ending → World → Prop := fun e w' => e = .returned v ∧ Keep [] w w'
theorem Val.mk (hs : St [] w0 w Γ) : Val v w0 (.returned v) w := ⟨rfl, hs.keep⟩
theorem Val.of {f : FuncId} {args : Array Value} (h : Calls P f args w (Val v w)) (hs : St S w0 w Γ) : Calls P f args w fun e w' => ∃ _ : Unit, e = .returned v ∧ St S w0 w' Γ :=
  h.mono fun e w' he => ⟨(), he.1, hs.step he.2⟩

/-- A call under such a contract. -/
theorem does_val {f : FuncId} {us caps : Array Value} {vs args : List Value} {xs : Array Operand} {tys : Array TypeId} (hf : Callable P f) (hx : ev L x = some (.func (.func f) us caps)) (hargs : evs L xs.toList = some vs)
    (he : us.toList ++ vs ++ caps.toList = args) (hc : ∀ w, St S w0 w Γ → Calls P f args.toArray w (Val v w)) : Does P n L S w0 Γ (.call ⟨.value x, xs, tys⟩) ty (fun _ : Unit => v) (fun _ => Γ) :=
  does_call hf hx hargs he fun w hs => Val.of (hc w hs) hs

/-- A contract that hands back something new: new pieces. -/
def Gives {X : Type} (val : X → Value) (Δ : X → List Piece) (w : World) : Ending → World → Prop := fun e w' => ∃ x, e = .returned (val x) ∧ Keep [] w w' ∧ New w w' (Δ x)
theorem does_gives {X : Type} {val : X → Value} {Δ : X → List Piece} {f : FuncId} {us caps : Array Value} {vs args : List Value} {xs : Array Operand} {tys : Array TypeId} (hf : Callable P f) (hx : ev L x = some (.func (.func f) us caps)) (hargs : evs L xs.toList = some vs)
    (he : us.toList ++ vs ++ caps.toList = args) (hc : ∀ w, St S w0 w Γ → Calls P f args.toArray w (Gives val Δ w)) {Γx : X → List Piece} (hΓ : ∀ x, Cat Γ (Δ x) (Γx x)) : Does P n L S w0 Γ (.call ⟨.value x, xs, tys⟩) ty val Γx :=
  does_call hf hx hargs he fun w hs => (hc w hs).mono fun e w' h => by
    obtain ⟨x, h1, h2, h3⟩ := h
    exact ⟨x, h1, (hΓ x).eq ▸ hs.new h2 h3⟩

end
end Go.Proofs.YtkejdfnpbkdllaaV
