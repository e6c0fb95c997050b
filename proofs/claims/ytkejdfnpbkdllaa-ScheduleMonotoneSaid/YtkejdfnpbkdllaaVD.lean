/- A statement whose order is open: operations that only look are taken first; the others come up as they may; what must come last comes last. No program is named here. -/
import Derived.Test.YtkejdfnpbkdllaaVC
namespace Go.Proofs.YtkejdfnpbkdllaaV
open Go Go.RowKit
set_option linter.unusedVariables false
set_option linter.unusedSimpArgs false

section
variable {P : Program} {ops : Array Oper} {Q : Exit → Act → World → Prop} {md : Region.Mode} {C : World → Prop}

/-- Whatever order is picked from here on; behind each operation before number m the world is of the class C. -/
def wpAnyT (P : Program) (md : Region.Mode) (ops : Array Oper) (Q : Exit → Act → World → Prop) (C : World → Prop) (m : Nat) : Nat → Array Bool → Act → World → Prop
  | 0, listed, a, w => Region.ready md ops listed = [] ∧ Q .normal a w
  | fuel + 1, listed, a, w =>
    (Region.ready md ops listed = [] → Q .normal a w) ∧
    ∀ i ∈ Region.ready md ops listed, wpOp P ops Q i (fun a' w' => (i < m → C w') ∧ wpAnyT P md ops Q C m fuel (listed.setIfInBounds i true) a' w') a w

theorem wpAny_of_T {m : Nat} : ∀ (fuel : Nat) (listed : Array Bool) (a : Act) (w : World), wpAnyT P md ops Q C m fuel listed a w → wpAny P md ops Q fuel listed a w
  | 0, _, _, _, h => h
  | fuel + 1, _, _, _, h => ⟨h.1, fun i hi => wpOp_mono (fun a' w' h' => wpAny_of_T fuel _ a' w' h'.2) (h.2 i hi)⟩

/-- As long as operation i has not come up, nothing from number m on can. -/
def TailWaits (md : Region.Mode) (ops : Array Oper) (m i : Nat) (listed : Array Bool) : Prop :=
  ∀ l : Array Bool, (∀ j, listed.getD j false = true → l.getD j false = true) → HeadInv md ops m l → l.getD i true = false → ∀ t, m ≤ t → t ∉ Region.ready md ops l

theorem wpAnyT_first {m i : Nat} {oi : Oper} {v : Value} (hi : ops[i]? = some oi) (hsel : ∀ (j : Nat) (o : Oper) cs b, ops[j]? = some o → o.op ≠ .select cs b)
    (hQ : ∀ c a w, Q (.panic c) (a.put oi.dst v) w → Q (.panic c) a w) (hm : ∀ l : Array Bool, HeadInv md ops m l → l.getD i true = false → ∀ t, m ≤ t → t ∉ Region.ready md ops l) (him : i < m) :
    ∀ (fuel : Nat) (listed : Array Bool) (a : Act) (w : World), HeadInv md ops m listed →
      (∀ j oj, ops[j]? = some oj → j ≠ i → listed.getD j true = false → (∀ e ∈ oj.after, Region.binds md e = true → e.on ≠ i) → oi.apart ops oj = true) →
      i ∈ Region.ready md ops listed → YieldsIf P ops C oi v a → C w →
      wpAnyT P md ops Q C m fuel (listed.setIfInBounds i true) (a.put oi.dst v) w → wpAnyT P md ops Q C m (fuel + 1) listed a w := by
  intro fuel
  induction fuel with
  | zero =>
    intro listed a w inv _ hr hy hS H
    refine ⟨fun h => (by rw [h] at hr; cases hr), fun j hj => ?_⟩
    by_cases hji : j = i
    · subst hji; exact hy.wpOp hi hS ⟨fun _ => hS, H⟩
    · have := ready_mono hj hji
      rw [H.1] at this
      cases this
  | succ fuel ih =>
    intro listed a w inv hfree hr hy hS H
    refine ⟨fun h => (by rw [h] at hr; cases hr), fun j hj => ?_⟩
    by_cases hji : j = i
    · subst hji; exact hy.wpOp hi hS ⟨fun _ => hS, H⟩
    · have h1 := H.2 j (ready_mono hj hji)
      obtain ⟨hjun, oj, hoj, hall⟩ := mem_ready.1 hj
      have hun := (mem_ready.1 hr).1
      have hjm : j < m := by
        rcases Nat.lt_or_ge j m with h | h
        · exact h
        · exact absurd hj (hm listed inv hun j h)
      have hnot : ∀ e ∈ oj.after, Region.binds md e = true → e.on ≠ i := fun e he hb heq => by
        have h1 := hall e he hb
        rw [heq, getD_both hun] at h1
        cases h1
      have h2 := wpOp_putIf hoj (hfree j oj hoj hji hjun hnot) (fun cs b => hsel i oi cs b hi) (fun cs b => hsel j oj cs b hoj) hQ hy h1
      have hfree' : ∀ k ok, ops[k]? = some ok → k ≠ i → (listed.setIfInBounds j true).getD k true = false →
          (∀ e ∈ ok.after, Region.binds md e = true → e.on ≠ i) → oi.apart ops ok = true := fun k ok hk hki hun hno => by
        refine hfree k ok hk hki ?_ hno
        by_cases hjk : j = k
        · subst hjk; exact hjun
        · rw [getD_set_ne true hjk] at hun; exact hun
      refine wpOp_mono (fun a' w' h3 => ⟨fun _ => h3.2.1 hjm, ih (listed.setIfInBounds j true) a' w' (inv.set hj hjm) hfree' (ready_mono hr (Ne.symm hji)) h3.1 (h3.2.1 hjm) ?_⟩) h2
      rw [Array.setIfInBounds_comm _ _ hji]
      exact h3.2.2

/-- No operation from number m on is listed, and what is listed is closed under waiting: as a Bool. -/
def headB (md : Region.Mode) (ops : Array Oper) (m : Nat) (listed : Array Bool) : Bool :=
  decide (listed.size = ops.size) && ((List.range ops.size).all fun j => !listed.getD j false || (match ops[j]? with | some o => o.after.all fun e => !Region.binds md e || listed.getD e.on false | none => true)) &&
  (List.range ops.size).all fun t => decide (t < m) || !listed.getD t true
theorem headB_spec {m : Nat} {listed : Array Bool} (h : headB md ops m listed = true) : HeadInv md ops m listed := by
  simp only [headB, Bool.and_eq_true, decide_eq_true_eq] at h
  obtain ⟨⟨h1, h2⟩, h3⟩ := h
  refine ⟨h1, fun j oj hj hl e he hb => ?_, fun t ht ht' => ?_⟩
  · have hlt : j < ops.size := (Array.getElem?_eq_some_iff.1 hj).1
    have := List.all_eq_true.1 h2 j (List.mem_range.2 hlt)
    simp only [hj, hl, Bool.not_true, Bool.false_or] at this
    have := Array.all_eq_true'.1 this e he
    simpa [hb] using this
  · have := List.all_eq_true.1 h3 t (List.mem_range.2 ht')
    simp only [Bool.or_eq_true, decide_eq_true_eq] at this
    rcases this with h | h
    · omega
    · simpa using h

/-- All that is asked of the tail, as a Bool: there is none, or it waits. -/
def tailB (md : Region.Mode) (ops : Array Oper) (m : Nat) : Bool := Nat.ble ops.size m || (decide (m < ops.size) && Region.sinkB md ops m && Region.chainB md ops m)
theorem tailB_spec {m i : Nat} (h : tailB md ops m = true) (him : i < m) : ∀ l : Array Bool, HeadInv md ops m l → l.getD i true = false → ∀ t, m ≤ t → t ∉ Region.ready md ops l := by
  intro l inv hun t ht hr
  unfold tailB at h
  simp only [Bool.or_eq_true, Bool.and_eq_true, decide_eq_true_eq] at h
  rcases h with h | ⟨⟨h1, h2⟩, h3⟩
  · have := Nat.le_of_ble_eq_true h
    obtain ⟨_, o, ho, _⟩ := mem_ready.1 hr
    have := (Array.getElem?_eq_some_iff.1 ho).1
    omega
  · exact tail_waits h2 h3 h1 inv (m - i) i rfl him hun t ht hr
end

section
variable {P : Program} {S Sx : List Nat} {w0 w w' : World} {Γ Γ' Γ0 : List Piece} {L L' : List (Nat × Value)} {n m i : Nat} {ops : Array Oper} {Q : Exit → Act → World → Prop} {o : Oper} {d : Nat} {v : Value} {fuel : Nat} {listed : Array Bool}

/-- No panic is let by. -/
def NP (Q : Exit → Act → World → Prop) : Exit → Act → World → Prop
  | .panic _, _, _ => False
  | e, a, w => Q e a w
theorem NP.imp : ∀ (e : Exit) (a : Act) (w : World), NP Q e a w → Q e a w := fun e a w h => by
  cases e <;> first | exact h | exact h.elim

/-- What is to be shown of a statement in the midst of which we stand. 'Γ0': the pieces that no operation before number m turns. -/
def Dr (P : Program) (ops : Array Oper) (Q : Exit → Act → World → Prop) (Γ0 : List Piece) (m fuel : Nat) (listed : Array Bool) (n : Nat) (L : List (Nat × Value)) (S : List Nat) (w0 : World) (Γ : List Piece) : Prop :=
  ∀ a w, Fr a n L → St S w0 w Γ → wpAnyT P .any ops (NP Q) (fun w => St S w0 w Γ0) m fuel listed a w

/-- The statement begins. -/
theorem cd_draw {id : Nat} {l : List Oper} (m : Nat) (Γ0 : List Piece) (hP : P.follows .mixedOrders = true) (h : Dr P l.toArray Q Γ0 m l.length (Array.replicate l.length false) n L S w0 Γ) : Cd P (.region id l.toArray true) Q n L S w0 Γ := fun a w hf hs =>
  wp_mono (Q := NP Q) (wp_region_any hP (wpAny_of_T _ _ _ _ (by simpa using h a _ hf (hs.step (.drawn w))))) NP.imp

theorem cd_draw' {id : Nat} {l : List Oper} (m : Nat) (hP : P.follows .mixedOrders = true) (h : Dr P l.toArray Q Γ m l.length (Array.replicate l.length false) n L S w0 Γ) : Cd P (.region id l.toArray true) Q n L S w0 Γ := cd_draw m Γ hP h

/-- Operation i may be taken first: as a Bool. -/
def takeB (ops : Array Oper) (m : Nat) (listed : Array Bool) (i : Nat) : Bool :=
  Nat.blt i m && Region.noSelect ops && tailB .any ops m && headB .any ops m listed && (Region.ready .any ops listed).contains i && Region.free .any ops listed i

theorem dr_first {v : Value} (hi : ops[i]? = some o) (hb : takeB ops m listed i = true) (hΓ : Γ0.Sublist Γ)
    (hy : ∀ a, Fr a n L → YieldsIf P ops (fun w => St S w0 w Γ0) o v a) (k : ∀ a w, Fr a n L → St S w0 w Γ → wpAnyT P .any ops (NP Q) (fun w => St S w0 w Γ0) m fuel (listed.setIfInBounds i true) (a.put o.dst v) w) :
    Dr P ops Q Γ0 m (fuel + 1) listed n L S w0 Γ := fun a w hf hs => by
  simp only [takeB, Bool.and_eq_true] at hb
  obtain ⟨⟨⟨⟨⟨h1, h2⟩, h3⟩, h4⟩, h5⟩, h6⟩ := hb
  have him : i < m := by simpa [Nat.blt_eq] using h1
  exact wpAnyT_first hi (Region.noSelect_spec h2) (fun c a w h => h) (tailB_spec h3 him) him fuel listed a w (headB_spec h4) (Region.free_spec hi h6) (by simpa using h5) (hy a hf) (hs.sub hΓ) (k a w hf hs)

variable {op : Op} {ty : TypeId} {pos : String} {after : Array Edge}
theorem dr_take (i : Nat) (hi : ops[i]? = some ⟨some d, op, ty, pos, after, none⟩) (hb : takeB ops m listed i = true) (hΓ : Γ0.Sublist Γ) (hp : Pure P n L (fun w => St S w0 w Γ0) op ty v) (hd : Nat.blt d n = true)
    (k : Dr P ops Q Γ0 m fuel (listed.setIfInBounds i true) n ((d, v) :: L) S w0 Γ) : Dr P ops Q Γ0 m (fuel + 1) listed n L S w0 Γ :=
  dr_first hi hb hΓ (fun a hf => .inl ⟨by simp [Region.wanted], fun w hw => hp a w _ _ _ _ hf hw⟩) (fun a w hf hs => k _ _ (hf.put hd v) hs)
theorem dr_take_g (i : Nat) {j t : Nat} {b b' : Bool} (hi : ops[i]? = some ⟨some d, op, ty, pos, after, some (j, b)⟩) (hj : (ops[j]?).bind (·.dst) = some t) (hl' : lk t L = some (.bool b')) (he : b' = b) (hb : takeB ops m listed i = true) (hΓ : Γ0.Sublist Γ)
    (hp : Pure P n L (fun w => St S w0 w Γ0) op ty v) (hd : Nat.blt d n = true) (k : Dr P ops Q Γ0 m fuel (listed.setIfInBounds i true) n ((d, v) :: L) S w0 Γ) : Dr P ops Q Γ0 m (fuel + 1) listed n L S w0 Γ :=
  have hl : lk t L = some (.bool b) := by rw [hl', he]
  dr_first hi hb hΓ (fun a hf => .inl ⟨by simp [Region.wanted, yielded_of hf hj hl], fun w hw => hp a w _ _ _ _ hf hw⟩) (fun a w hf hs => k _ _ (hf.put hd v) hs)
theorem dr_skip (i : Nat) {j t : Nat} {b b' : Bool} (hi : ops[i]? = some ⟨some d, op, ty, pos, after, some (j, b)⟩) (hj : (ops[j]?).bind (·.dst) = some t) (hl : lk t L = some (.bool b')) (he : b' = !b) (hb : takeB ops m listed i = true) (hΓ : Γ0.Sublist Γ)
    (hd : Nat.blt d n = true) (k : Dr P ops Q Γ0 m fuel (listed.setIfInBounds i true) n ((d, undef) :: L) S w0 Γ) : Dr P ops Q Γ0 m (fuel + 1) listed n L S w0 Γ :=
  dr_first hi hb hΓ (fun a hf => .inr ⟨by
    have : ¬ b' = b := by rw [he]; cases b <;> simp
    simp [Region.wanted, yielded_of hf hj hl, this], rfl⟩) (fun a w hf hs => k _ _ (hf.put hd undef) hs)

theorem dr_split (t : Nat) {b : Bool} (hb : lk t L = some (.bool b)) (h1 : b = true → Dr P ops Q Γ0 m fuel listed n L S w0 Γ) (h2 : b = false → Dr P ops Q Γ0 m fuel listed n L S w0 Γ) : Dr P ops Q Γ0 m fuel listed n L S w0 Γ := by
  cases b
  · exact h2 rfl
  · exact h1 rfl
theorem wp_of_then {K : Act → World → Prop} {a : Act} (h : o.wp P a w (wpList P ops (Exit.then K Q) []) (Exit.then K Q)) : o.wp P a w K Q := by
  unfold Oper.wp at *
  generalize (execOp a.eval o).run P w = r at *
  cases r with
  | ok nx w' =>
    cases nx
    case enter f args => exact Calls.mono h fun e w'' he => by cases e <;> exact he
    all_goals exact h
  | halt x w' => cases x <;> exact h

theorem wpOp_of_list {K : Act → World → Prop} {a : Act} (hi : ops[i]? = some o) (h : wpList P ops (Exit.then K Q) [o] a w) : wpOp P ops Q i K a w := by
  unfold wpOp
  rw [hi]
  simp only
  unfold wpList at h
  split
  · rename_i hw
    rw [if_pos hw] at h
    rcases h with h | h
    · exact .inl (wp_of_then h)
    · exact .inr h
  · rename_i hw
    rw [if_neg hw] at h
    exact h

/-- What is to be shown behind operation i. -/
def Nx (P : Program) (ops : Array Oper) (Q : Exit → Act → World → Prop) (S : List Nat) (w0 : World) (Γ0 : List Piece) (m fuel : Nat) (listed : Array Bool) (i : Nat) : Exit → Act → World → Prop :=
  Exit.then (fun a' w' => (i < m → St S w0 w' Γ0) ∧ wpAnyT P .any ops (NP Q) (fun w => St S w0 w Γ0) m fuel (listed.setIfInBounds i true) a' w') (NP Q)

theorem dr_one (i : Nat) (hr : Region.ready .any ops listed = [i]) (hi : ops[i]? = some o) (h : At P ops (Nx P ops Q S w0 Γ0 m fuel listed i) [o] n L S w0 Γ) : Dr P ops Q Γ0 m (fuel + 1) listed n L S w0 Γ := fun a w hf hs =>
  ⟨fun h0 => (by rw [hr] at h0; cases h0), fun j hj => by
    rw [hr] at hj
    obtain rfl : j = i := by simpa using hj
    exact wpOp_of_list hi (h a w hf hs)⟩
theorem dr_two (i j : Nat) {o' : Oper} (hr : Region.ready .any ops listed = [i, j]) (hi : ops[i]? = some o) (hj : ops[j]? = some o') (h : At P ops (Nx P ops Q S w0 Γ0 m fuel listed i) [o] n L S w0 Γ) (h' : At P ops (Nx P ops Q S w0 Γ0 m fuel listed j) [o'] n L S w0 Γ) :
    Dr P ops Q Γ0 m (fuel + 1) listed n L S w0 Γ := fun a w hf hs =>
  ⟨fun h0 => (by rw [hr] at h0; cases h0), fun k hk => by
    rw [hr] at hk
    simp only [List.mem_cons, List.mem_nil_iff, or_false] at hk
    rcases hk with rfl | rfl
    · exact wpOp_of_list hi (h a w hf hs)
    · exact wpOp_of_list hj (h' a w hf hs)⟩
theorem dr_next (hC : Nat.blt i m = true → Γ0.Sublist Γ) (k : Dr P ops Q Γ0 m fuel (listed.setIfInBounds i true) n L S w0 Γ) : Ex (Nx P ops Q S w0 Γ0 m fuel listed i) .normal n L S w0 Γ := fun a w hf hs =>
  ⟨fun hlt => hs.sub (hC (by simpa [Nat.blt_eq] using hlt)), k a w hf hs⟩
theorem dr_done (hr : Region.ready .any ops listed = []) (h : Ex Q .normal n L S w0 Γ) : Dr P ops Q Γ0 m fuel listed n L S w0 Γ := fun a w hf hs => by
  cases fuel with
  | zero => exact ⟨hr, h a w hf hs⟩
  | succ f => exact ⟨fun _ => h a w hf hs, by rw [hr]; simp⟩
theorem Dr.weak (h : Dr P ops Q Γ0 m fuel listed n L' S w0 Γ') (hL : Sub L' L) (hΓ : Γ'.Sublist Γ) : Dr P ops Q Γ0 m fuel listed n L S w0 Γ := fun a w hf hs => h a w (hf.sub hL) (hs.sub hΓ)

end
end Go.Proofs.YtkejdfnpbkdllaaV
