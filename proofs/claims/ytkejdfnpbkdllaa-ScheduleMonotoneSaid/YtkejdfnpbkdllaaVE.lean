/- Rows of elements: lists written out, indexing, loops that are unrolled. No program is named here. -/
import Derived.Test.YtkejdfnpbkdllaaVD
namespace Go.Proofs.YtkejdfnpbkdllaaV
open Go Go.RowKit
set_option linter.unusedVariables false
set_option linter.unusedSimpArgs false

section
variable {P : Program} {S : List Nat} {w0 w w' : World} {Γ Γ' : List Piece} {L L' : List (Nat × Value)} {n : Nat} {ops : Array Oper} {rest : List Oper} {Q : Exit → Act → World → Prop} {o : Oper} {d : Nat} {v : Value}
variable {ty : TypeId} {x y c : Operand} {pos : String} {after : Array Edge} {op : Op} {C : World → Prop}

/-- A loop of which we know that it goes round m + 1 times at most. -/
theorem cd_rounds {c : Code} (m : Nat) (h : Cd P c (Exit.then (Code.rounds P c Q m) Q) n L S w0 Γ) : Cd P (.loop c) Q n L S w0 Γ := fun a w hf hs => wp_loop_rounds (m + 1) (h a w hf hs)
theorem ex_round {c : Code} {m : Nat} (h : Cd P c (Exit.then (Code.rounds P c Q m) Q) n L S w0 Γ) : Ex (Exit.then (Code.rounds P c Q (m + 1)) Q) .normal n L S w0 Γ := h

/-! ### Lists written out -/
/-- The element's type and the cells of a list written out: to be reckoned by the kernel. -/
def builtRow (P : Program) (T : TypeId) (len : Nat) (parts : List (Nat × Value)) : Option (TypeId × List Value) :=
  match P.underlying T with
  | some (.slice e) =>
    match P.info? e with
    | some i =>
      if len * i.size > 2 ^ 24 then none else if len * i.size = 0 then none else
      match i.zero.map Value.cells with
      | some z => (Instr.fill (fun k => some (k * i.size, i.size)) ((Array.range (len * i.size)).map (z[· % z.size]!)) parts).map fun cs => (e, cs.toList)
      | none => none
    | none => none
  | _ => none
theorem run_builtRow {T e : TypeId} {len : Nat} {parts : Array (Nat × Value)} {cs : List Value} (h : builtRow P T len parts.toList = some (e, cs)) (w : World) :
    (Instr.buildSlice T len parts).run P w = .ok (.slice (some ⟨w.heap.size, 0, none⟩) len len) (w.alloc (.cells cs.toArray e (0, 0))) := by
  unfold builtRow at h
  split at h
  · rename_i e' h1
    split at h
    · rename_i i h2
      split at h
      · cases h
      · rename_i h3
        have hsz : (sizeOf e').run P w = .ok i.size w := by simp [sizeOf, typeInfo, h2]
        have hz0 : (zeroValue e').run P w = (match i.zero with | some z => .ok z w | none => (unsupported (.resourceLimit "a value of more than 2^22 cells") : Sem Value).run P w) := by
          cases hz : i.zero <;> simp [zeroValue, typeInfo, h2, hz]
        split at h
        · cases h
        · rename_i h5
          split at h
          · rename_i z h4
            cases hf : Instr.fill (fun k => some (k * i.size, i.size)) ((Array.range (len * i.size)).map (z[· % z.size]!)) parts.toList with
            | none => rw [hf] at h; cases h
            | some cells =>
              rw [hf] at h
              simp only [Option.map_some, Option.some.injEq, Prod.mk.injEq] at h
              obtain ⟨rfl, rfl⟩ := h
              unfold Instr.buildSlice
              simp only [Sem.run_bind, run_underlying h1, Result.andThen_ok, hsz, h3]
              cases hz : i.zero with
              | none => rw [hz] at h4; cases h4
              | some zv =>
                rw [hz] at h4
                simp only [Option.map_some, Option.some.injEq] at h4
                subst h4
                rw [hz] at hz0
                simp [h5, hz0, hf, newRow, newObj, Sem.run]
          · cases h
    · cases h
  · cases h

theorem does_list {T e : TypeId} {len : Nat} {parts : Array (Nat × Operand)} {vs cs : List Value} (hx : evs L (parts.toList.map (·.2)) = some vs) {Γg : Nat → List Piece} (hb : builtRow P T len ((parts.toList.map (·.1)).zip vs) = some (e, cs)) (hΓ : ∀ g, Cat Γ [Box g cs e] (Γg g)) :
    Does P n L S w0 Γ (.buildSlice T len parts) ty (fun g : Nat => .slice (some ⟨g, 0, none⟩) len len) Γg := fun a w dst pos after g hf hs =>
  .inl ⟨w.heap.size, _, by
    have e1 : (parts.map fun (i, x) => (i, a.eval x)).toList = (parts.toList.map (·.1)).zip vs := by
      rw [← hf.ats hx, Array.toList_map]
      induction parts.toList with
      | nil => rfl
      | cons z l ih => simp [ih]
    simp only [execOp]
    rw [Sem.run_bind, run_builtRow (parts := parts.map fun (i, x) => (i, a.eval x)) (by rw [e1]; exact hb) w]
    rfl, (hΓ w.heap.size).eq ▸ hs.newBox cs e⟩

/-- An index that is written out, into a list of our own. -/
theorem pv_indexLit {t e : TypeId} {g len cap r m : Nat} {k : IntKind} {i : Int} (ht : P.underlying t = some (.slice e)) (hm : (Nat.beq (P.cellsOf e) m && !Nat.beq m 0) = true) (hx : ev L x = some (.slice (some ⟨g, 0, none⟩) len cap)) (hy : ev L y = some (.int k i))
    (h : (decide (0 ≤ i) && decide (i < len)) = true) (hr : i.toNat * m = r) : Pure P n L C (.indexAddr t x y) ty (.pointer (some ⟨g, r, none⟩)) := fun a w _ _ _ _ hf _ => by
  simp only [Bool.and_eq_true, decide_eq_true_eq, Bool.not_eq_true'] at h hm
  have hm1 : P.cellsOf e = m := by simpa using hm.1
  obtain ⟨j, hj1, hj2⟩ := cellsOf_info (P := P) (t := e) (by rw [hm1]; exact hm.2)
  simp only [execOp]; rw [hf.at_ hx, hf.at_ hy]
  simp [Instr.indexAt, asIntOf, run_underlying ht, h, sizeOf, typeInfo, hj1, hj2, hm1, hr, Addr.add_lit]
/-- An index into a slice: the element's address. -/
theorem pv_index {t e : TypeId} {A : Addr} {len cap m : Nat} {k : IntKind} {i : Int} (ht : P.underlying t = some (.slice e)) (hm : (Nat.beq (P.cellsOf e) m && !Nat.beq m 0) = true) (hx : ev L x = some (.slice (some A) len cap)) (hy : ev L y = some (.int k i))
    (h : 0 ≤ i ∧ i < len) : Pure P n L C (.indexAddr t x y) ty (.pointer (some (A.add (i.toNat * m)))) := fun a w _ _ _ _ hf _ => by
  simp only [Bool.and_eq_true, Bool.not_eq_true'] at hm
  have hm1 : P.cellsOf e = m := by simpa using hm.1
  obtain ⟨j, hj1, hj2⟩ := cellsOf_info (P := P) (t := e) (by rw [hm1]; exact hm.2)
  simp only [execOp]; rw [hf.at_ hx, hf.at_ hy]
  simp [Instr.indexAt, asIntOf, run_underlying ht, h, sizeOf, typeInfo, hj1, hj2, hm1]
/-- An index into an array value of one-cell elements. -/
theorem pv_arr {t e : TypeId} {cs : Array Value} {len : Nat} {k : IntKind} {i : Int} (ht : P.underlying t = some (.array len e)) (he : cellB P e = true) (hm : Nat.beq (P.cellsOf e) 1 = true) (hx : ev L x = some (.agg cs)) (hy : ev L y = some (.int k i))
    (h : (decide (0 ≤ i) && decide (i < len)) = true) (hv : cs[i.toNat]? = some v) : Pure P n L C (.index t x y) ty v := fun a w _ _ _ _ hf _ => by
  simp only [Bool.and_eq_true, decide_eq_true_eq] at h
  have hm1 : P.cellsOf e = 1 := by simpa using hm
  obtain ⟨j, hj1, hj2⟩ := cellsOf_info (P := P) (t := e) (by rw [hm1]; rfl)
  have h3 : (isAgg e).run P w = .ok false w := by
    unfold cellB at he
    unfold isAgg
    cases h1 : P.underlying e with
    | none => rw [h1] at he; cases he
    | some d => rw [h1] at he; cases d <;> simp_all [run_underlying h1]
  simp only [execOp]; rw [hf.at_ hx, hf.at_ hy]
  simp [Instr.index, asIntOf, run_underlying ht, h, sizeOf, typeInfo, hj1, hj2, hm1, part, h3, hv]
end
end Go.Proofs.YtkejdfnpbkdllaaV
