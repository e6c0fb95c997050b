/- The frame, the owned memory and the walk of a function, as assertions: the rules by which this seat's functions are walked. No program is named here. -/
import Derived.WalkKit
import Derived.OrdersHeld
import Derived.StillTail
import Derived.StillTailTactics
import Derived.Deep.Quiet
import Derived.KernelRfl
import Derived.RowKit3
namespace Go.Proofs.YtkejdfnpbkdllaaV
open Go Go.RowKit
set_option linter.unusedVariables false

/-! ### 1. What is known of a frame -/
def lk (t : Nat) : List (Nat × Value) → Option Value
  | [] => none
  | (k, v) :: L => bif Nat.beq t k then some v else lk t L

structure Fr (a : Act) (n : Nat) (L : List (Nat × Value)) : Prop where
  d : a.defers = []
  s : a.tmps.size = n
  g : ∀ t v, lk t L = some v → a.tmps.getD t undef = v

theorem Fr.put {a : Act} {n : Nat} {L : List (Nat × Value)} (h : Fr a n L) {d : Nat} (hd : Nat.blt d n = true) (v : Value) : Fr (a.put (some d) v) n ((d, v) :: L) := by
  have hd' : d < n := by simpa [Nat.blt_eq] using hd
  refine ⟨h.d, by simp [Act.put, h.s], fun t u hu => ?_⟩
  simp only [lk] at hu
  by_cases e : t = d
  · subst e
    have : Nat.beq t t = true := by simp
    rw [this, cond_true] at hu
    cases hu
    have := h.s
    simp [Act.put, Array.getD_eq_getD_getElem?, this, hd']
  · have : Nat.beq t d = false := by rw [← Bool.not_eq_true]; simpa using e
    rw [this, cond_false] at hu
    have := h.g t u hu
    rw [← this]
    simp only [Act.put, Array.getD_eq_getD_getElem?]
    rw [Array.getElem?_setIfInBounds_ne (by omega)]

/-- Each row of L' is known by L. -/
def Sub : List (Nat × Value) → List (Nat × Value) → Prop
  | [], _ => True
  | (t, v) :: L', L => lk t L = some v ∧ Sub L' L

theorem Sub.look {L' L : List (Nat × Value)} (h : Sub L' L) : ∀ t v, lk t L' = some v → lk t L = some v := by
  induction L' with
  | nil => intro t v hv; simp [lk] at hv
  | cons x L' ih =>
    intro t v hv
    obtain ⟨k, u⟩ := x
    simp only [lk] at hv
    by_cases e : t = k
    · subst e
      have : Nat.beq t t = true := by simp
      rw [this, cond_true] at hv
      cases hv
      exact h.1
    · have : Nat.beq t k = false := by rw [← Bool.not_eq_true]; simpa using e
      rw [this, cond_false] at hv
      exact ih h.2 t v hv

theorem Fr.sub {a : Act} {n : Nat} {L L' : List (Nat × Value)} (h : Fr a n L) (hs : Sub L' L) : Fr a n L' := ⟨h.d, h.s, fun t v hv => h.g t v (hs.look t v hv)⟩

/-- What an operand is. -/
def ev (L : List (Nat × Value)) : Operand → Option Value
  | .tmp t => lk t L
  | .const v => some v
  | .global g => some (.pointer (some ⟨g, 0, none⟩))
  | .func f => some (.func (.func f) #[] #[])

theorem Fr.at_ {a : Act} {n : Nat} {L : List (Nat × Value)} (h : Fr a n L) {x : Operand} {v : Value} (hv : ev L x = some v) : a.eval x = v := by
  cases x with
  | tmp t => exact h.g t v hv
  | const u => exact Option.some.inj hv
  | global g => exact Option.some.inj hv
  | func f => exact Option.some.inj hv

def evs (L : List (Nat × Value)) : List Operand → Option (List Value)
  | [] => some []
  | x :: xs => match ev L x, evs L xs with
    | some v, some vs => some (v :: vs)
    | _, _ => none

theorem Fr.ats {a : Act} {n : Nat} {L : List (Nat × Value)} (h : Fr a n L) : ∀ {xs : List Operand} {vs : List Value}, evs L xs = some vs → xs.map a.eval = vs
  | [], vs, hv => by simp [evs] at hv; simp [hv]
  | x :: xs, vs, hv => by
    simp only [evs] at hv
    split at hv
    · rename_i v us h1 h2
      cases hv
      simp [h.at_ h1, Fr.ats h h2]
    · cases hv

/-! ### 2. Memory -/
/-- From w to w' nothing has turned but the blocks of S and new ones. -/
structure Keep (S : List Nat) (w w' : World) : Prop where
  os : w'.os = w.os
  tape : w'.tape = w.tape
  output : w'.output = w.output
  size : w.heap.size ≤ w'.heap.size
  block : ∀ k, k < w.heap.size → k ∉ S → w'.heap[k]? = w.heap[k]?

theorem Keep.refl (S : List Nat) (w : World) : Keep S w w := ⟨rfl, rfl, rfl, Nat.le_refl _, fun _ _ _ => rfl⟩
theorem Keep.below {w w' : World} (h : Keep [] w w') : Below w.heap.size w w' := ⟨h.os, h.tape, h.output, h.size, fun k hk => h.block k hk (by simp)⟩
theorem Keep.of_below {w w' : World} (h : Below w.heap.size w w') : Keep [] w w' := ⟨h.os, h.tape, h.output, h.size, fun k hk _ => h.block k hk⟩
theorem Keep.drew (w : World) : Keep [] w w.drew := ⟨rfl, rfl, rfl, Nat.le_refl _, fun _ _ _ => rfl⟩
theorem Keep.drawn (w : World) : Keep [] w { w with drawn := w.drawn + 1 } := ⟨rfl, rfl, rfl, Nat.le_refl _, fun _ _ _ => rfl⟩
theorem Keep.trans {S : List Nat} {a b c : World} (h : Keep S a b) (k : Keep S b c) : Keep S a c :=
  ⟨k.os.trans h.os, k.tape.trans h.tape, k.output.trans h.output, Nat.le_trans h.size k.size, fun i hi hS => (k.block i (Nat.lt_of_lt_of_le hi h.size) hS).trans (h.block i hi hS)⟩
theorem Keep.mono {S S' : List Nat} {a b : World} (h : Keep S a b) (hS : ∀ k ∈ S, k ∈ S') : Keep S' a b := ⟨h.os, h.tape, h.output, h.size, fun i hi hn => h.block i hi (fun hk => hn (hS i hk))⟩
theorem Keep.grown {w w' : World} (h : w.grownBy w' none) : Keep [] w w' := ⟨h.os, h.tape, h.output, h.size, fun k hk _ => h.block k hk (by simp)⟩
theorem Keep.cell {S : List Nat} {w w' : World} (h : Keep S w w') {p : Addr} {v : Value} (hp : p.block ∉ S) (hc : w.cell? p = some v) : w'.cell? p = some v :=
  (World.cell?_of_block (w := w) (h.block p.block (World.block_lt_of_cell? w p hc) hp)).trans hc

/-- A piece of memory that is owned: its blocks, and what is known of them. -/
structure Piece where
  foot : List Nat
  pred : World → Prop
  loc : ∀ w w', (∀ k ∈ foot, w'.heap[k]? = w.heap[k]?) → pred w → pred w'

theorem sLn (l : List Piece) : List.Sublist [] l := List.nil_sublist l
theorem sLc {a : Piece} {l m : List Piece} (h : List.Sublist l m) : List.Sublist (a :: l) (a :: m) := h.cons_cons a
theorem sLd {a : Piece} {l m : List Piece} (h : List.Sublist l m) : List.Sublist l (a :: m) := h.cons a
structure St (S : List Nat) (w0 w : World) (Γ : List Piece) : Prop where
  keep : Keep S w0 w
  hold : ∀ p ∈ Γ, p.pred w
  ins : ∀ p ∈ Γ, ∀ k ∈ p.foot, k < w.heap.size ∧ (w0.heap.size ≤ k ∨ k ∈ S)
  apart : Γ.Pairwise (fun p q => ∀ k ∈ p.foot, k ∉ q.foot)

variable {P : Program} {S : List Nat} {w0 w w' : World} {Γ Γ' : List Piece} {L L' : List (Nat × Value)} {n : Nat} {ops : Array Oper} {rest : List Oper} {Q : Exit → Act → World → Prop}

theorem St.init (w0 : World) (S : List Nat) : St S w0 w0 [] := ⟨.refl _ _, by simp, by simp, .nil⟩

/-- A part of the pieces. -/
theorem St.sub (h : St S w0 w Γ) (hs : Γ'.Sublist Γ) : St S w0 w Γ' :=
  ⟨h.keep, fun p hp => h.hold p (hs.subset hp), fun p hp => h.ins p (hs.subset hp), h.apart.sublist hs⟩

/-- What leaves the old blocks alone leaves the pieces alone. -/
theorem St.step (h : St S w0 w Γ) (k : Keep [] w w') : St S w0 w' Γ :=
  ⟨h.keep.trans (k.mono (by simp)), fun p hp => p.loc w w' (fun j hj => k.block j (h.ins p hp j hj).1 (by simp)) (h.hold p hp),
    fun p hp j hj => ⟨Nat.lt_of_lt_of_le (h.ins p hp j hj).1 k.size, (h.ins p hp j hj).2⟩, h.apart⟩

/-- New pieces. -/
structure New (w w' : World) (Δ : List Piece) : Prop where
  hold : ∀ p ∈ Δ, p.pred w'
  ins : ∀ p ∈ Δ, ∀ k ∈ p.foot, w.heap.size ≤ k ∧ k < w'.heap.size
  apart : Δ.Pairwise (fun p q => ∀ k ∈ p.foot, k ∉ q.foot)

theorem New.nil : New w w' [] := ⟨by simp, by simp, .nil⟩

theorem St.new {Δ : List Piece} (h : St S w0 w Γ) (k : Keep [] w w') (hn : New w w' Δ) : St S w0 w' (Γ ++ Δ) := by
  have h1 := h.step k
  refine ⟨h1.keep, fun p hp => ?_, fun p hp j hj => ?_, ?_⟩
  · rcases List.mem_append.1 hp with hp | hp
    · exact h1.hold p hp
    · exact hn.hold p hp
  · rcases List.mem_append.1 hp with hp | hp
    · exact h1.ins p hp j hj
    · have := hn.ins p hp j hj
      exact ⟨this.2, .inl (Nat.le_trans h.keep.size this.1)⟩
  · refine List.pairwise_append.2 ⟨h.apart, hn.apart, fun p hp q hq j hj hj' => ?_⟩
    have a1 := (h.ins p hp j hj).1
    have a2 := (hn.ins q hq j hj').1
    omega

/-- Piece i is turned into q; nothing else that is old has turned. -/
theorem St.turn {i : Nat} {p q : Piece} (h : St S w0 w Γ) (hi : Γ[i]? = some p) (k : Keep p.foot w w') (hq : q.pred w') (hf : ∀ j ∈ q.foot, (j ∈ p.foot ∨ w.heap.size ≤ j) ∧ j < w'.heap.size) :
    St S w0 w' (Γ.set i q) := by
  have hlt : i < Γ.length := (List.getElem?_eq_some_iff.1 hi).1
  have hpi : Γ[i] = p := (List.getElem?_eq_some_iff.1 hi).2
  have hp : p ∈ Γ := hpi ▸ List.getElem_mem hlt
  have far : ∀ j (hj : j < Γ.length), j ≠ i → ∀ x ∈ Γ[j].foot, x ∉ p.foot := by
    intro j hj hne x hx hx'
    rcases Nat.lt_or_gt_of_ne hne with hl | hg
    · have := List.pairwise_iff_getElem.1 h.apart j i hj hlt hl x hx
      rw [hpi] at this
      exact this hx'
    · have := List.pairwise_iff_getElem.1 h.apart i j hlt hj hg
      rw [hpi] at this
      exact this x hx' hx
  refine ⟨⟨k.os.trans h.keep.os, k.tape.trans h.keep.tape, k.output.trans h.keep.output, Nat.le_trans h.keep.size k.size, fun j hj hS => ?_⟩, fun r hr => ?_, fun r hr x hx => ?_, ?_⟩
  · refine (k.block j (Nat.lt_of_lt_of_le hj h.keep.size) (fun hx => ?_)).trans (h.keep.block j hj hS)
    rcases (h.ins p hp j hx).2 with h1 | h1
    · omega
    · exact hS h1
  · obtain ⟨j, hj, rfl⟩ := List.mem_iff_getElem.1 hr
    simp only [List.length_set] at hj
    by_cases e : i = j
    · subst e; simpa using hq
    · rw [List.getElem_set_ne e]
      exact (Γ[j]).loc w w' (fun x hx => k.block x (h.ins _ (List.getElem_mem hj) x hx).1 (far j hj (Ne.symm e) x hx)) (h.hold _ (List.getElem_mem hj))
  · obtain ⟨j, hj, rfl⟩ := List.mem_iff_getElem.1 hr
    simp only [List.length_set] at hj
    by_cases e : i = j
    · subst e
      simp only [List.getElem_set_self] at hx
      refine ⟨(hf x hx).2, ?_⟩
      rcases (hf x hx).1 with h1 | h1
      · exact (h.ins p hp x h1).2
      · exact .inl (Nat.le_trans h.keep.size h1)
    · rw [List.getElem_set_ne e] at hx
      have := h.ins _ (List.getElem_mem hj) x hx
      exact ⟨Nat.lt_of_lt_of_le this.1 k.size, this.2⟩
  · refine List.pairwise_iff_getElem.2 fun a b ha hb hab x hx hx' => ?_
    simp only [List.length_set] at ha hb
    by_cases ea : i = a
    · subst ea
      rw [List.getElem_set_self] at hx
      rw [List.getElem_set_ne (by omega)] at hx'
      rcases (hf x hx).1 with h1 | h1
      · exact far b hb (by omega) x hx' h1
      · have := (h.ins _ (List.getElem_mem hb) x hx').1; omega
    · by_cases eb : i = b
      · subst eb
        rw [List.getElem_set_self] at hx'
        rw [List.getElem_set_ne ea] at hx
        rcases (hf x hx').1 with h1 | h1
        · exact far a ha (by omega) x hx h1
        · have := (h.ins _ (List.getElem_mem ha) x hx).1; omega
      · rw [List.getElem_set_ne ea] at hx
        rw [List.getElem_set_ne eb] at hx'
        exact List.pairwise_iff_getElem.1 h.apart a b ha hb hab x hx hx'

end Go.Proofs.YtkejdfnpbkdllaaV
