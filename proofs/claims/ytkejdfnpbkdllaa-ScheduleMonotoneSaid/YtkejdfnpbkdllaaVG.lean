/- Calls that turn a piece; rows of numbers in old memory; starts that own a piece. No program is named here. -/
import Derived.Test.YtkejdfnpbkdllaaVE
namespace Go.Proofs.YtkejdfnpbkdllaaV
open Go Go.RowKit
set_option linter.unusedVariables false
set_option linter.unusedSimpArgs false

section
variable {P : Program} {S : List Nat} {w0 w w' : World} {Γ Γ' : List Piece} {L L' : List (Nat × Value)} {n : Nat} {ops : Array Oper} {rest : List Oper} {Q : Exit → Act → World → Prop} {o : Oper} {d : Nat} {v : Value}
variable {ty : TypeId} {x y c : Operand} {pos : String} {after : Array Edge} {op : Op} {C : World → Prop}

theorem pv_neg_n {p : Int} {t : TypeId} (hx : ev L x = some (.int .i64 p)) (h : In64 (-p)) : Pure P n L C (.unOp .neg t x) ty (.int .i64 (-p)) := wrap64_in h ▸ pv_neg hx

/-- A start that owns one variable. -/
theorem St.own {g : Nat} {cs : List Value} {T : TypeId} (h : w.heap[g]? = some (.cells cs.toArray T (0, 0))) : St [g] w w [Box g cs T] :=
  ⟨.refl _ _, by intro p hp; simp only [List.mem_singleton] at hp; subst hp; exact h, by
    intro p hp k hk
    simp only [List.mem_singleton] at hp
    subst hp
    simp only [Box, List.mem_singleton] at hk
    subst hk
    exact ⟨(Array.getElem?_eq_some_iff.1 h).1, .inr (by simp)⟩, by simp⟩

/-- A row of numbers lies at a, in a block that is none of S. -/
def Ints (S : List Nat) (w : World) (a : Option Addr) (len : Nat) : Prop := len = 0 ∨ ∃ A, a = some A ∧ A.block < w.heap.size ∧ A.block ∉ S ∧ ∀ i, i < len → ∃ z, w.cell? (A.add i) = some (.int .i64 z)
theorem add_block (A : Addr) (i : Nat) : (A.add i).block = A.block := by unfold Addr.add; split <;> rfl
theorem Ints.keep {a : Option Addr} {len : Nat} (h : Ints S w a len) (k : Keep S w w') : Ints S w' a len := by
  rcases h with h | ⟨A, rfl, hb, hS, hA⟩
  · exact .inl h
  · exact .inr ⟨A, rfl, Nat.lt_of_lt_of_le hb k.size, hS, fun i hi => (hA i hi).imp fun z hz => k.cell (by rw [add_block]; exact hS) hz⟩
theorem Ints.fresh {a : Option Addr} {len g : Nat} (h : Ints [] w a len) (hg : w.heap.size ≤ g) : Ints [g] w a len := by
  rcases h with h | ⟨A, rfl, hb, hS, hA⟩
  · exact .inl h
  · exact .inr ⟨A, rfl, hb, by simp; omega, hA⟩
/-- A new variable lies behind all that is old. -/
theorem St.new_at {i g : Nat} {cs : List Value} {T : TypeId} (hs : St [] w0 w Γ) (hin : Nth Γ i (Box g cs T)) : w0.heap.size ≤ g := by
  have := (hs.ins _ (List.mem_of_getElem? hin.get) g (by simp [Box])).2
  simpa using this
/-- The row, seen while a new variable is about to be turned. -/
theorem Ints.beside {a : Option Addr} {len i g : Nat} {cs : List Value} {T : TypeId} (h : Ints [] w0 a len) (hs : St [] w0 w Γ) (hin : Nth Γ i (Box g cs T)) : Ints [g] w a len :=
  (h.fresh (hs.new_at hin)).keep (hs.keep.mono (by simp))

/-- A call that turns one variable and hands a number back. -/
def Hand (P : Program) (n : Nat) (L : List (Nat × Value)) (S : List Nat) (w0 : World) (Γ : List Piece) (op : Op) (ty : TypeId) (val : Int → Value) (good : Int → Int → Prop) (Γp : Int → List Piece) : Prop :=
  Does P n L S w0 Γ op ty (X := {z : Int × Int // good z.1 z.2}) (fun z => val z.1.1) (fun z => Γp z.1.2)
theorem at_hand {val : Int → Value} {good : Int → Int → Prop} {Γp : Int → List Piece} (h : Hand P n L S w0 Γ op ty val good Γp) (hd : Nat.blt d n = true) (k : ∀ x p, good x p → At P ops Q rest n ((d, val x) :: L) S w0 (Γp p)) :
    At P ops Q (⟨some d, op, ty, pos, after, none⟩ :: rest) n L S w0 Γ := at_does h hd fun z => k z.1.1 z.1.2 z.2
theorem at_hand_g {val : Int → Value} {good : Int → Int → Prop} {Γp : Int → List Piece} {j t : Nat} {b b' : Bool} (hj : (ops[j]?).bind (·.dst) = some t) (hb' : lk t L = some (.bool b')) (he : b' = b) (h : Hand P n L S w0 Γ op ty val good Γp) (hd : Nat.blt d n = true)
    (k : ∀ x p, good x p → At P ops Q rest n ((d, val x) :: L) S w0 (Γp p)) : At P ops Q (⟨some d, op, ty, pos, after, some (j, b)⟩ :: rest) n L S w0 Γ := at_does_g hj hb' he h hd fun z => k z.1.1 z.1.2 z.2

/-- What such a call hands back. -/
def Turned (g : Nat) (T : TypeId) (val : Int → Value) (good : Int → Int → Prop) (q : Int → List Value) (w : World) : Ending → World → Prop :=
  fun e w' => ∃ x p, good x p ∧ e = .returned (val x) ∧ Keep [g] w w' ∧ w'.heap[g]? = some (.cells (q p).toArray T (0, 0))
theorem Turned.mk {g i : Nat} {T : TypeId} {val : Int → Value} {good : Int → Int → Prop} {q : Int → List Value} (x p : Int) (hg : good x p) (hv : v = val x) (hs : St [g] w0 w Γ) (hin : Nth Γ i (Box g (q p) T)) : Turned g T val good q w0 (.returned v) w :=
  ⟨x, p, hg, by rw [hv], hs.keep, hs.box hin.get⟩
theorem does_hand {val : Int → Value} {good : Int → Int → Prop} {q : Int → List Value} {Γp : Int → List Piece} {f : FuncId} {us caps : Array Value} {vs args : List Value} {xs : Array Operand} {tys : Array TypeId} {i g : Nat} {cs : List Value} {T : TypeId}
    (hf : Callable P f) (hx : ev L x = some (.func (.func f) us caps)) (hargs : evs L xs.toList = some vs) (he : us.toList ++ vs ++ caps.toList = args) (hin : Nth Γ i (Box g cs T))
    (hc : ∀ w, St S w0 w Γ → Calls P f args.toArray w (Turned g T val good q w)) (hch : ∀ p, Chg Γ i (Box g (q p) T) (Γp p)) : Hand P n L S w0 Γ (.call ⟨.value x, xs, tys⟩) ty val good Γp :=
  does_call hf hx hargs he fun w hs => (hc w hs).mono fun e w' h => by
    obtain ⟨z, p, h1, h2, h3, h4⟩ := h
    refine ⟨⟨(z, p), h1⟩, h2, ?_⟩
    rw [← (hch p).eq]
    refine hs.turn hin.get h3 h4 ?_
    intro k hk
    simp only [Box, List.mem_singleton] at hk
    subst hk
    refine ⟨.inl (by simp [Box]), ?_⟩
    have := (Array.getElem?_eq_some_iff.1 h4).1
    exact this

/-- What a call hands back that makes something of which only this is known. -/
def Some' {X : Type} (val : X → Value) (good : X → Prop) (w : World) : Ending → World → Prop := fun e w' => ∃ x, good x ∧ e = .returned (val x) ∧ Keep [] w w'
theorem does_some {X : Type} {val : X → Value} {good : X → Prop} {f : FuncId} {us caps : Array Value} {vs args : List Value} {xs : Array Operand} {tys : Array TypeId} (hf : Callable P f) (hx : ev L x = some (.func (.func f) us caps)) (hargs : evs L xs.toList = some vs)
    (he : us.toList ++ vs ++ caps.toList = args) (hc : ∀ w, St S w0 w Γ → Calls P f args.toArray w (Some' val good w)) : Does P n L S w0 Γ (.call ⟨.value x, xs, tys⟩) ty (fun z : {z : X // good z} => val z.1) (fun _ => Γ) :=
  does_call hf hx hargs he fun w hs => (hc w hs).mono fun e w' h => by
    obtain ⟨z, h1, h2, h3⟩ := h
    exact ⟨⟨z, h1⟩, h2, hs.step h3⟩
theorem Some'.mk {X : Type} {val : X → Value} {good : X → Prop} (z : X) (hg : good z) (hv : v = val z) (hs : St [] w0 w Γ) : Some' val good w0 (.returned v) w := ⟨z, hg, by rw [hv], hs.keep⟩
/-- What a function has made is handed back. -/
theorem Gives.mk {X : Type} {val : X → Value} {Δ : X → List Piece} (z : X) (hv : v = val z) (hΔ : Γ = Δ z) (hs : St [] w0 w Γ) : Gives val Δ w0 (.returned v) w :=
  ⟨z, by rw [hv], hs.keep, by rw [← hΔ]; exact hs.hold, by
    rw [← hΔ]
    intro p hp k hk
    have := hs.ins p hp k hk
    refine ⟨?_, this.1⟩
    simpa using this.2, by rw [← hΔ]; exact hs.apart⟩
/-- Pairs of equal numbers make equal results. -/
theorem eq_agg2 {a b a' b' : Int} (h1 : a = a') (h2 : b = b') : Ending.returned (.agg ([.int .i64 a, .int .i64 b] : List Value).toArray) = .returned (.agg #[.int .i64 a', .int .i64 b']) := by rw [h1, h2]
end
end Go.Proofs.YtkejdfnpbkdllaaV
