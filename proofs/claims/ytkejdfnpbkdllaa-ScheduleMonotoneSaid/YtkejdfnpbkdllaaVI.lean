/- Calls that use up a variable and hand back rows of our own. No program is named here. -/
import Derived.Test.YtkejdfnpbkdllaaVH
import Derived.Laws.MakeOwn
namespace Go.Proofs.YtkejdfnpbkdllaaV
open Go Go.RowKit
set_option linter.unusedVariables false
set_option linter.unusedSimpArgs false
section
variable {α : Type} {enc : α → List Value} {m : Nat} {a : Option Addr} {cap : Nat} {xs : List α}
variable {P : Program} {S : List Nat} {w0 w w' : World} {Γ Γ' : List Piece} {L L' : List (Nat × Value)} {n : Nat} {ops : Array Oper} {rest : List Oper} {Q : Exit → Act → World → Prop} {o : Oper} {d : Nat} {v : Value}
variable {ty : TypeId} {x y c : Operand} {pos : String} {after : Array Edge} {op : Op} {C : World → Prop}

/-- What a call hands back that uses variable g and makes new pieces. -/
def Made {X : Type} (g : Nat) (val : X → Value) (Δ : X → List Piece) (good : X → Prop) (w : World) : Ending → World → Prop :=
  fun e w' => ∃ z, good z ∧ e = .returned (val z) ∧ Keep [g] w w' ∧ New w w' (Δ z)
theorem Made.mk {X : Type} {g : Nat} {val : X → Value} {Δ : X → List Piece} {good : X → Prop} {cs : List Value} {T : TypeId} (z : X) (hg : good z) (hv : v = val z) (hs : St [g] w0 w (Box g cs T :: Γ)) (hsub : (Δ z).Sublist Γ) : Made g val Δ good w0 (.returned v) w := by
  have h2 : St [g] w0 w (Δ z) := hs.sub (List.Sublist.cons _ hsub)
  refine ⟨z, hg, by rw [hv], hs.keep, h2.hold, fun p hp k hk => ?_, h2.apart⟩
  have h3 := h2.ins p hp k hk
  refine ⟨?_, h3.1⟩
  rcases h3.2 with h4 | h4
  · exact h4
  · simp only [List.mem_singleton] at h4
    subst h4
    have := (List.pairwise_cons.1 hs.apart).1 p (hsub.subset hp) k (by simp [Box])
    exact absurd hk this

/-- What is known of every such state may be used. -/
theorem Cd.know {φ : Prop} {c : Code} (h : ∀ w, St S w0 w Γ → φ) (k : φ → Cd P c Q n L S w0 Γ) : Cd P c Q n L S w0 Γ := fun a w hf hs => k (h w hs) a w hf hs
/-- Piece i is lost; new pieces come. -/
theorem St.lose {i : Nat} {p : Piece} {Δ : List Piece} (hs : St S w0 w Γ) (hin : Nth Γ i p) (k : Keep p.foot w w') (hn : New w w' Δ) (hΓ : (Γ.eraseIdx i ++ Δ) = Γ') : St S w0 w' Γ' := by
  subst hΓ
  have hlt : i < Γ.length := (List.getElem?_eq_some_iff.1 hin.get).1
  have hpi : Γ[i] = p := (List.getElem?_eq_some_iff.1 hin.get).2
  have hp : p ∈ Γ := hpi ▸ List.getElem_mem hlt
  have far : ∀ q ∈ Γ.eraseIdx i, ∀ x ∈ q.foot, x ∉ p.foot := by
    intro q hq x hx hx'
    obtain ⟨j, hj⟩ := List.getElem?_of_mem hq
    rw [List.getElem?_eraseIdx] at hj
    split at hj
    · rename_i hl
      have hj2 : j < Γ.length := (List.getElem?_eq_some_iff.1 hj).1
      have hj3 : Γ[j] = q := (List.getElem?_eq_some_iff.1 hj).2
      have := List.pairwise_iff_getElem.1 hs.apart j i hj2 hlt hl x (by rw [hj3]; exact hx)
      rw [hpi] at this
      exact this hx'
    · rename_i hl
      have hj2 : j + 1 < Γ.length := (List.getElem?_eq_some_iff.1 hj).1
      have hj3 : Γ[j + 1] = q := (List.getElem?_eq_some_iff.1 hj).2
      have := List.pairwise_iff_getElem.1 hs.apart i (j + 1) hlt hj2 (by omega) x (by rw [hpi]; exact hx')
      rw [hj3] at this
      exact this hx
  have hsub : (Γ.eraseIdx i).Sublist Γ := List.eraseIdx_sublist ..
  have h1 := hs.sub hsub
  refine ⟨⟨k.os.trans h1.keep.os, k.tape.trans h1.keep.tape, k.output.trans h1.keep.output, Nat.le_trans h1.keep.size k.size, fun j hj hS => ?_⟩, fun q hq => ?_, fun q hq x hx => ?_, ?_⟩
  · refine (k.block j (Nat.lt_of_lt_of_le hj h1.keep.size) (fun hx => ?_)).trans (h1.keep.block j hj hS)
    rcases (hs.ins p hp j hx).2 with h2 | h2
    · omega
    · exact hS h2
  · rcases List.mem_append.1 hq with hq | hq
    · exact q.loc w w' (fun x hx => k.block x (h1.ins q hq x hx).1 (far q hq x hx)) (h1.hold q hq)
    · exact hn.hold q hq
  · rcases List.mem_append.1 hq with hq | hq
    · have := h1.ins q hq x hx
      exact ⟨Nat.lt_of_lt_of_le this.1 k.size, this.2⟩
    · have := hn.ins q hq x hx
      exact ⟨this.2, .inl (Nat.le_trans h1.keep.size this.1)⟩
  · refine List.pairwise_append.2 ⟨h1.apart, hn.apart, fun q hq r hr x hx hx' => ?_⟩
    have := (h1.ins q hq x hx).1
    have := (hn.ins r hr x hx').1
    omega
theorem does_made {X : Type} {g i : Nat} {val : X → Value} {Δ : X → List Piece} {good : X → Prop} {f : FuncId} {us caps : Array Value} {vs args : List Value} {xs : Array Operand} {tys : Array TypeId} {cs : List Value} {T : TypeId} {Γx : X → List Piece}
    (hf : Callable P f) (hx : ev L x = some (.func (.func f) us caps)) (hargs : evs L xs.toList = some vs) (he : us.toList ++ vs ++ caps.toList = args) (hin : Nth Γ i (Box g cs T))
    (hc : ∀ w, St S w0 w Γ → Calls P f args.toArray w (Made g val Δ good w)) (hΓ : ∀ z, Γ.eraseIdx i ++ Δ z = Γx z) : Does P n L S w0 Γ (.call ⟨.value x, xs, tys⟩) ty (fun z : {z : X // good z} => val z.1) (fun z => Γx z.1) :=
  does_call hf hx hargs he fun w hs => (hc w hs).mono fun e w' h => by
    obtain ⟨z, h1, h2, h3, h4⟩ := h
    exact ⟨⟨z, h1⟩, h2, hs.lose hin h3 h4 (hΓ z)⟩
/-! ### Rows that are made, rows that are written -/
theorem madeCells_one (v0 : Value) (n : Nat) : (madeCells #[v0] (n * 1)).toList = List.replicate n v0 := by
  rw [Nat.mul_one]
  apply List.ext_getElem
  · simp [madeCells]
  · intro i h1 h2
    simp [madeCells, Nat.mod_one]
theorem flat_replicate {z0 : α} {v0 : Value} (henc : enc z0 = [v0]) : ∀ k : Nat, (List.replicate k z0).flatMap enc = List.replicate k v0
  | 0 => rfl
  | k + 1 => by rw [List.replicate_succ, List.flatMap_cons, flat_replicate henc k, henc]; rfl
theorem does_make {t e : TypeId} {z0 : α} {v0 : Value} {b k : Nat} {Γg : Nat → List Piece} (henc : enc z0 = [v0]) (ht : P.underlying t = some (.slice e)) (hi : (P.info? e).map (fun i => (i.zero.map Value.cells, i.size, i.bytes)) = some (some #[v0], 1, b)) (hb : b ≤ 256)
    (hx : ev L x = some (.int .i64 (k : Int))) (hy : ev L y = some (.int .i64 (k : Int))) (hk : k ≤ 1000000) (hΓ : ∀ g, Cat Γ [RowP enc 1 e (some ⟨g, 0, none⟩) k (List.replicate k z0)] (Γg g)) :
    Does P n L S w0 Γ (.makeSlice t x y) ty (fun g : Nat => .slice (some ⟨g, 0, none⟩) k k) Γg := fun A w dst pos after gd hf hs => by
  obtain ⟨i, h1, h2⟩ := Option.map_eq_some_iff.1 hi
  simp only [Prod.mk.injEq] at h2
  obtain ⟨h3, h4, h5⟩ := h2
  obtain ⟨zv, h6, h7⟩ := Option.map_eq_some_iff.1 h3
  have hm : k ≤ maxLen := by simp [maxLen]; omega
  have hbb : i.bytes * k ≤ 281474976710656 := by
    rw [h5]
    exact Nat.le_trans (Nat.mul_le_mul hb hk) (by omega)
  obtain ⟨w', r1, r2, r3⟩ := run_makeSlice_full (P := P) w w.heap.size t e i zv 1 ht h1 h6 h4 .i64 .i64 k (by omega) hbb hm (Nat.le_refl _)
  rw [h7, madeCells_one] at r2
  left
  refine ⟨w.heap.size, w', ?_, ?_⟩
  · simp only [execOp]
    rw [hf.at_ hx, hf.at_ hy, Sem.run_bind, r1]
    rfl
  · rw [← (hΓ w.heap.size).eq]
    have hfl : (List.replicate k z0).flatMap enc = List.replicate k v0 := flat_replicate henc k
    refine hs.new ⟨r3.os, r3.tape, r3.output, r3.size, fun j hj _ => r3.block j hj (by simp)⟩ ⟨?_, ?_, by simp⟩
    · intro p hp
      simp only [List.mem_singleton] at hp
      subst hp
      show w'.ownsRow 0 e 1 _ _ _
      rw [hfl, List.length_replicate]
      refine ⟨r2.1, ?_⟩
      rcases r2.2 with h | ⟨g, c, cur, q1, q2, q3⟩
      · exact .inl h
      · exact .inr ⟨g, c, cur, q1, Nat.zero_le _, q3⟩
    · intro p hp j hj
      simp only [List.mem_singleton] at hp
      subst hp
      simp only [RowP, blk, List.mem_singleton] at hj
      subst hj
      refine ⟨Nat.le_refl _, ?_⟩
      rcases r2.2 with ⟨h, _⟩ | ⟨g, c, cur, q1, q2, q3, _⟩
      · cases h
      · simp only [Value.slice.injEq, Option.some.injEq, Addr.mk.injEq, and_true] at q1
        rw [q1.1]
        exact (Array.getElem?_eq_some_iff.1 q3).1

theorem putAt_flat {enc : α → List Value} {m : Nat} (hm : ∀ z, (enc z).length = m) {us : List Value} {q : Nat} {z z' : α} (hz' : putAt (enc z) q us = enc z') (hq : q + us.length ≤ m) : ∀ (zs : List α) (k : Nat), zs[k]? = some z → putAt (zs.flatMap enc) (k * m + q) us = (zs.set k z').flatMap enc
  | [], k, h => by simp at h
  | y :: zs, 0, h => by
    simp only [List.getElem?_cons_zero, Option.some.injEq] at h
    subst h
    simp only [List.flatMap_cons, Nat.zero_mul, Nat.zero_add, List.set_cons_zero]
    rw [← hz']
    unfold putAt
    have hl := hm y
    rw [List.take_append_of_le_length (by omega), List.drop_append_of_le_length (by omega)]
    simp
  | y :: zs, k + 1, h => by
    simp only [List.getElem?_cons_succ] at h
    have ih := putAt_flat hm hz' hq zs k h
    have hl := hm y
    simp only [List.flatMap_cons, List.set_cons_succ]
    rw [← ih]
    unfold putAt
    have e1 : (k + 1) * m + q = (enc y).length + (k * m + q) := by rw [hl, Nat.add_mul]; omega
    rw [e1, List.take_length_add_append, Nat.add_assoc, List.drop_length_add_append]
    simp [Nat.add_assoc]
theorem putAt_take {cs us : List Value} {off l : Nat} (h : off + us.length ≤ l) (hl : l ≤ cs.length) : (putAt cs off us).take l = putAt (cs.take l) off us := by
  unfold putAt
  rw [List.take_take, Nat.min_eq_left (by omega)]
  rw [List.drop_take]
  have e1 : (cs.take off ++ us).length = off + us.length := by simp; omega
  rw [List.take_append, e1, List.take_of_length_le (by omega)]

/-- One element of our own row is written. -/
theorem turns_put {T e : TypeId} {i k q M : Nat} {us : List Value} {z z' : α} {A : Addr} (hm : ∀ z : α, (enc z).length = m) (hT : (Nat.beq (P.cellsOf T) M && !Nat.beq M 0) = true) (hx : ev L x = some (.pointer (some A))) (hA : A = (adr a).add (k * m + q)) (hy : ev L y = some v) (hvc : CellsOf v us) (hM : us.length = M)
    (h1 : us.all Value.oneCell' = true) (hin : Nth Γ i (RowP enc m e a cap xs)) (hz : xs[k]? = some z) (hz' : putAt (enc z) q us = enc z') (hq : q + us.length ≤ m) (hch : Chg Γ i (RowP enc m e a cap (xs.set k z')) Γ') : Turns P n L S w0 Γ (.store T x y) ty Γ' := fun B w dst pos after gd hf hs => by
  simp only [Bool.and_eq_true, Bool.not_eq_true'] at hT
  have hT1 : P.cellsOf T = us.length := by rw [hM]; simpa using hT.1
  obtain ⟨j, hj1, hj2⟩ := cellsOf_info (P := P) (t := T) (by rw [hT1, hM]; exact hT.2)
  have hsz : j.size = us.length := hj2.trans hT1
  have hown := hs.piece hin.get
  have hkl := (List.getElem?_eq_some_iff.1 hz).1
  rcases hown.2 with ⟨_, h0⟩ | ⟨g, c, cur, e1, _, e2, e3, e4, e5, e6⟩
  · omega
  · simp only [Value.slice.injEq] at e1
    obtain ⟨rfl, _, rfl⟩ := e1
    have hoff : k * m + q + us.length ≤ xs.length * m := by
      have : (k + 1) * m ≤ xs.length * m := Nat.mul_le_mul_right _ hkl
      rw [Nat.add_mul] at this
      omega
    have hcur : xs.length * m ≤ cur.toList.length := by
      have h9 : cur.toList.length = cap * m := by simpa using e5
      rw [h9]; exact Nat.mul_le_mul_right _ e3
    obtain ⟨w', r1, r2, r3, r4⟩ := run_storeCells_block P g e us 0 (k * m + q) cur.toList w e2 (by omega) (fun u hu => List.all_eq_true.1 h1 u hu)
    have hAd : A = ⟨g, k * m + q, none⟩ := by rw [hA]; show Addr.add ⟨g, 0, none⟩ _ = _; rw [Addr.add_lit, Nat.zero_add]
    refine ⟨w', ?_, hch.eq ▸ hs.turn hin.get r2 ?_ ?_⟩
    · simp only [execOp]; rw [hf.at_ hx, hf.at_ hy, hAd]
      have hv := hvc.eq
      have hcs : v.cells.size = us.length := by rw [← Array.length_toList, hv]
      simp [Instr.storeAt, Instr.sureAddr, storeVar, sizeOf, typeInfo, hj1, hsz, hcs, hv, r1]
    · show w'.ownsRow 0 e m _ _ _
      rw [List.length_set]
      refine ⟨by rw [flatMap_len hm, List.length_set], .inr ⟨g, cap, _, rfl, Nat.zero_le _, r3, e3, e4, ?_, ?_⟩⟩
      · simp only [List.size_toArray]
        rw [Nat.add_zero]
        unfold putAt
        simp only [List.length_append, List.length_take, List.length_drop, Array.length_toList]
        have hcs : xs.length * m ≤ cur.size := by rw [e5]; exact Nat.mul_le_mul_right _ e3
        rw [← e5]
        omega
      · show (putAt cur.toList (k * m + q + 0) us).take (xs.length * m) = _
        rw [Nat.add_zero, putAt_take hoff hcur, e6, putAt_flat hm hz' hq xs k hz]
    · intro b hb
      simp only [RowP, blk, List.mem_singleton] at hb
      subst hb
      refine ⟨.inl (by simp [RowP, blk]), ?_⟩
      rw [r4]
      exact (Array.getElem?_eq_some_iff.1 e2).1
end
end Go.Proofs.YtkejdfnpbkdllaaV
