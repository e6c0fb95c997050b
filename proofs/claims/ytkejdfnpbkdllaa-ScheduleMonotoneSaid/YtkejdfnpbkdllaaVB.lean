/- The rules of the walk: lists of operations, code, calls; operations that leave memory alone. No program is named here. -/
import Derived.Test.YtkejdfnpbkdllaaVA
import Derived.Laws.StructEq
import Derived.Laws.Tables
namespace Go.Proofs.YtkejdfnpbkdllaaV
open Go Go.RowKit
set_option linter.unusedVariables false
set_option linter.unusedSimpArgs false

/-! ### 3. What is to be shown of a list of operations, of code, of an end -/
def At (P : Program) (ops : Array Oper) (Q : Exit → Act → World → Prop) (rest : List Oper) (n : Nat) (L : List (Nat × Value)) (S : List Nat) (w0 : World) (Γ : List Piece) : Prop :=
  ∀ a w, Fr a n L → St S w0 w Γ → wpList P ops Q rest a w
def Cd (P : Program) (c : Code) (Q : Exit → Act → World → Prop) (n : Nat) (L : List (Nat × Value)) (S : List Nat) (w0 : World) (Γ : List Piece) : Prop :=
  ∀ a w, Fr a n L → St S w0 w Γ → c.wp P Q a w
def Ex (Q : Exit → Act → World → Prop) (e : Exit) (n : Nat) (L : List (Nat × Value)) (S : List Nat) (w0 : World) (Γ : List Piece) : Prop :=
  ∀ a w, Fr a n L → St S w0 w Γ → Q e a w

section
variable {P : Program} {S : List Nat} {w0 w w' : World} {Γ Γ' : List Piece} {L L' : List (Nat × Value)} {n : Nat} {ops : Array Oper} {rest : List Oper} {Q : Exit → Act → World → Prop} {o : Oper} {d : Nat} {v : Value}

theorem cd_seq {x y : Code} (h : Cd P x (Exit.then (y.wp P Q) Q) n L S w0 Γ) : Cd P (.seq x y) Q n L S w0 Γ := fun a w hf hs => wp_seq (h a w hf hs)
theorem cd_region {id : Nat} {l : List Oper} (h : At P l.toArray Q l n L S w0 Γ) : Cd P (.region id l.toArray false) Q n L S w0 Γ := fun a w hf hs => wp_region_lit (h a w hf hs)
theorem cd_skip (h : Ex Q .normal n L S w0 Γ) : Cd P .skip Q n L S w0 Γ := fun a w hf hs => wp_skip (h a w hf hs)
theorem cd_block {id : Nat} {c : Code} (h : Cd P c (Exit.inBlock id Q) n L S w0 Γ) : Cd P (.block id c) Q n L S w0 Γ := fun a w hf hs => wp_block (h a w hf hs)
theorem cd_exit {id : Nat} (h : Ex Q (.exit id) n L S w0 Γ) : Cd P (.exit id) Q n L S w0 Γ := fun a w hf hs => wp_exit (h a w hf hs)
theorem cd_ret (h : Ex Q .ret n L S w0 Γ) : Cd P .ret Q n L S w0 Γ := fun a w hf hs => wp_ret (h a w hf hs)
theorem cd_if {c : Operand} {x y : Code} {b : Bool} (hc : ev L c = some (.bool b)) (ht : b = true → Cd P x Q n L S w0 Γ) (hf' : b = false → Cd P y Q n L S w0 Γ) : Cd P (.cond c x y) Q n L S w0 Γ :=
  fun a w hf hs => wp_cond_split (hf.at_ hc) (fun h => ht h a w hf hs) (fun h => hf' h a w hf hs)
theorem cd_then {c : Operand} {x y : Code} {b : Bool} (hc : ev L c = some (.bool b)) (he : b = true) (h : Cd P x Q n L S w0 Γ) : Cd P (.cond c x y) Q n L S w0 Γ := fun a w hf hs => wp_cond_true (by rw [hf.at_ hc, he]) (h a w hf hs)
theorem cd_else {c : Operand} {x y : Code} {b : Bool} (hc : ev L c = some (.bool b)) (he : b = false) (h : Cd P y Q n L S w0 Γ) : Cd P (.cond c x y) Q n L S w0 Γ := fun a w hf hs => wp_cond_false (by rw [hf.at_ hc, he]) (h a w hf hs)
theorem at_nil (h : Ex Q .normal n L S w0 Γ) : At P ops Q [] n L S w0 Γ := fun a w hf hs => wpList_nil (h a w hf hs)
theorem ex_go {y : Code} (h : Cd P y Q n L S w0 Γ) : Ex (Exit.then (y.wp P Q) Q) .normal n L S w0 Γ := h
theorem ex_then_exit {N : Act → World → Prop} {id : Nat} (h : Ex Q (.exit id) n L S w0 Γ) : Ex (Exit.then N Q) (.exit id) n L S w0 Γ := h
theorem ex_then_ret {N : Act → World → Prop} (h : Ex Q .ret n L S w0 Γ) : Ex (Exit.then N Q) .ret n L S w0 Γ := h
theorem ex_in {id : Nat} (h : Ex Q .normal n L S w0 Γ) : Ex (Exit.inBlock id Q) (.exit id) n L S w0 Γ := fun a w hf hs => by simp only [Exit.inBlock, if_true]; exact h a w hf hs
theorem ex_in_other {id id' : Nat} (hne : Nat.beq id' id = false) (h : Ex Q (.exit id') n L S w0 Γ) : Ex (Exit.inBlock id Q) (.exit id') n L S w0 Γ := fun a w hf hs => by
  have : ¬ id' = id := by intro e; subst e; simp at hne
  simp only [Exit.inBlock, this, if_false]; exact h a w hf hs
theorem ex_in_normal {id : Nat} (h : Ex Q .normal n L S w0 Γ) : Ex (Exit.inBlock id Q) .normal n L S w0 Γ := h
theorem ex_in_ret {id : Nat} (h : Ex Q .ret n L S w0 Γ) : Ex (Exit.inBlock id Q) .ret n L S w0 Γ := h

/-- What is known is forgotten. -/
theorem Cd.weak {c : Code} (h : Cd P c Q n L' S w0 Γ') (hL : Sub L' L) (hΓ : Γ'.Sublist Γ) : Cd P c Q n L S w0 Γ := fun a w hf hs => h a w (hf.sub hL) (hs.sub hΓ)
theorem Ex.weak {e : Exit} (h : Ex Q e n L' S w0 Γ') (hL : Sub L' L) (hΓ : Γ'.Sublist Γ) : Ex Q e n L S w0 Γ := fun a w hf hs => h a w (hf.sub hL) (hs.sub hΓ)
theorem At.weak (h : At P ops Q rest n L' S w0 Γ') (hL : Sub L' L) (hΓ : Γ'.Sublist Γ) : At P ops Q rest n L S w0 Γ := fun a w hf hs => h a w (hf.sub hL) (hs.sub hΓ)

/-- A cut: x comes to one of the states of a family; y goes on from each. -/
theorem cd_cut {σ : Type} {x y : Code} (Lf : σ → List (Nat × Value)) (Γf : σ → List Piece) (good : σ → Prop)
    (hx : Cd P x (Exit.then (fun a w => ∃ s, good s ∧ Fr a n (Lf s) ∧ St S w0 w (Γf s)) Q) n L S w0 Γ) (hy : ∀ s, good s → Cd P y Q n (Lf s) S w0 (Γf s)) : Cd P (.seq x y) Q n L S w0 Γ :=
  fun a w hf hs => wp_seq (wp_mono (hx a w hf hs) fun e a' w' h => by
    cases e with
    | normal => obtain ⟨s, hg, hF, hS⟩ := h; exact hy s hg a' w' hF hS
    | _ => exact h)
theorem ex_meet {σ : Type} {Lf : σ → List (Nat × Value)} {Γf : σ → List Piece} {good : σ → Prop} (s : σ) (hg : good s) (hL : Sub (Lf s) L) (hΓ : (Γf s).Sublist Γ) :
    Ex (Exit.then (fun a w => ∃ s, good s ∧ Fr a n (Lf s) ∧ St S w0 w (Γf s)) Q) .normal n L S w0 Γ := fun a w hf hs => ⟨s, hg, hf.sub hL, hs.sub hΓ⟩

/-- A loop: a family of states at its head, with a measure. -/
theorem cd_loop {σ : Type} {c : Code} (Lf : σ → List (Nat × Value)) (Γf : σ → List Piece) (good : σ → Prop) (μ : σ → Nat) (s0 : σ) (h0 : good s0) (hL : Sub (Lf s0) L) (hΓ : (Γf s0).Sublist Γ)
    (round : ∀ s, good s → Cd P c (Exit.then (fun a w => ∃ s', (good s' ∧ μ s' < μ s) ∧ Fr a n (Lf s') ∧ St S w0 w (Γf s')) Q) n (Lf s) S w0 (Γf s)) : Cd P (.loop c) Q n L S w0 Γ := by
  intro a w hf hs
  have key : ∀ m s, μ s = m → good s → ∀ a w, Fr a n (Lf s) → St S w0 w (Γf s) → ∀ (b : Frame) (k : List Item) (cs : List Frame),
      ∃ e a' w', Q e a' w' ∧ Arrives P (lone (b.at a (.code c :: .inLoop c :: k)) cs w) b k cs e a' w' := by
    intro m
    induction m using Nat.strongRecOn with
    | _ m ih =>
      intro s hm hg a w hf hs b k cs
      obtain ⟨e, a₁, w₁, hq, harr⟩ := round s hg a w hf hs b (.inLoop c :: k) cs
      cases e with
      | normal =>
        obtain ⟨s', ⟨hg', hlt⟩, hF, hS⟩ := hq
        obtain ⟨e₂, a₂, w₂, hq₂, harr₂⟩ := ih (μ s') (hm ▸ hlt) s' rfl hg' a₁ w₁ hF hS b k cs
        exact ⟨e₂, a₂, w₂, hq₂, .of_steps (Steps.trans harr (.one step_inLoop)) harr₂⟩
      | exit id => exact ⟨_, a₁, w₁, hq, .pass (x := .inLoop c) rfl (fun _ _ => .inl (by simp)) harr⟩
      | goto l => exact ⟨_, a₁, w₁, hq, .pass (x := .inLoop c) rfl (fun _ _ => .inl (by simp)) harr⟩
      | ret => exact ⟨_, a₁, w₁, hq, .pass (x := .inLoop c) rfl (fun _ _ => .inl (by simp)) harr⟩
      | panic ch => exact ⟨_, a₁, w₁, hq, .pass (x := .inLoop c) rfl (fun _ _ => .inl (by simp)) harr⟩
      | outgrown => exact ⟨_, a₁, w₁, hq, .pass (x := .inLoop c) rfl (fun _ _ => .inl (by simp)) harr⟩
  intro b k cs
  obtain ⟨e, a', w', hq, harr⟩ := key _ s0 rfl h0 a w (hf.sub hL) (hs.sub hΓ) b k cs
  exact ⟨e, a', w', hq, .of_steps (.one step_loop) harr⟩

/-! ### 4. A call of a function; its end -/
theorem calls_start {f : FuncId} {fn : Func} {c : Code} {args : List Value} {R : Ending → World → Prop} (hf : P.funcs[f]? = some fn) (hb : fn.body = some c) (L : List (Nat × Value))
    (hn : fn.ntmps = n) (hL : ∀ a : Act, a.defers = [] → a.tmps = args.toArray ++ Array.replicate (n - args.length) undef → Fr a n L) (hs : St S w0 w0 Γ)
    (h : Cd P c (bodyPost P fn R) n L S w0 Γ) : Calls P f args.toArray w0 R := by
  refine calls_of_wp hf hb (h _ _ (hL _ rfl ?_) hs)
  simp [hn]

def params : Nat → List Value → List (Nat × Value)
  | _, [] => []
  | k, v :: vs => (k, v) :: params (k + 1) vs
theorem lk_params : ∀ (vs : List Value) (k t : Nat) (v : Value), lk t (params k vs) = some v → k ≤ t ∧ vs[t - k]? = some v
  | [], k, t, v, h => by simp [params, lk] at h
  | u :: vs, k, t, v, h => by
    simp only [params, lk] at h
    by_cases e : t = k
    · subst e
      have : Nat.beq t t = true := by simp
      rw [this, cond_true] at h
      cases h
      simp
    · have : Nat.beq t k = false := by rw [← Bool.not_eq_true]; simpa using e
      rw [this, cond_false] at h
      obtain ⟨h1, h2⟩ := lk_params vs (k + 1) t v h
      refine ⟨by omega, ?_⟩
      rw [show t - k = (t - (k + 1)) + 1 by omega]
      simpa using h2
theorem fr_params (args : List Value) (hn : Nat.ble args.length n = true) (a : Act) (hd : a.defers = []) (ht : a.tmps = args.toArray ++ Array.replicate (n - args.length) undef) : Fr a n (params 0 args) := by
  have hn' : args.length ≤ n := by simpa using hn
  refine ⟨hd, by simp [ht]; omega, fun t v h => ?_⟩
  obtain ⟨_, h2⟩ := lk_params args 0 t v h
  have hlt : t < args.length := (List.getElem?_eq_some_iff.1 h2).1
  simp only [Nat.sub_zero] at h2
  rw [ht, Array.getD_eq_getD_getElem?, Array.getElem?_append_left (by simpa using hlt)]
  simp [h2]

/-- The walk of a function begins: 'refine calls_body Try.func12 rfl rfl rfl rfl (St.init _ _) ?_'. -/
theorem calls_body {f : FuncId} {fn : Func} {c : Code} {args : List Value} {R : Ending → World → Prop} (hf : P.funcs[f]? = some fn) (hb : fn.body = some c) (hn : fn.ntmps = n)
    (hl : Nat.ble args.length n = true) (hs : St S w0 w0 Γ) (h : Cd P c (bodyPost P fn R) n (params 0 args) S w0 Γ) : Calls P f args.toArray w0 R :=
  calls_start hf hb (params 0 args) hn (fr_params args hl) hs h

variable {fn : Func} {R : Ending → World → Prop}
theorem results_run1 {t : Nat} (hr : fn.results = #[.tmp t]) (a : Act) (w : World) : (results fn a.tmps).run P w = .ok (a.tmps.getD t undef) w := by simp [results, hr]
theorem end_ret1 {t : Nat} (hr : fn.results = #[.tmp t]) (hv : lk t L = some v) (h : ∀ w, St S w0 w Γ → R (.returned v) w) : Ex (bodyPost P fn R) .ret n L S w0 Γ :=
  fun a w hf hs => bodyPost_ret (results_tmp hr _ _ _) hf.d (by rw [hf.g t v hv]; exact h w hs)
theorem end_ret2 {t u : Nat} {v1 v2 : Value} (hr : fn.results = #[.tmp t, .tmp u]) (hv : lk t L = some v1) (hu : lk u L = some v2) (h : ∀ w, St S w0 w Γ → R (.returned (.tuple #[v1, v2])) w) : Ex (bodyPost P fn R) .ret n L S w0 Γ :=
  fun a w hf hs => bodyPost_ret (results_tmp2 hr _ _ _) hf.d (by rw [hf.g t v1 hv, hf.g u v2 hu]; exact h w hs)
theorem end_ret0 (hr : fn.results = #[]) (h : ∀ w, St S w0 w Γ → R (.returned (.tuple #[])) w) : Ex (bodyPost P fn R) .ret n L S w0 Γ :=
  fun a w hf hs => bodyPost_ret (results_none hr _ _ _) hf.d (h w hs)
theorem end_normal0 (hr : fn.results = #[]) (h : ∀ w, St S w0 w Γ → R (.returned (.tuple #[])) w) : Ex (bodyPost P fn R) .normal n L S w0 Γ :=
  fun a w hf hs => bodyPost_end (results_none hr _ _ _) hf.d (h w hs)
/-- Whatever the results are (some lie in memory). -/
theorem end_ret (hv : ∀ a w, Fr a n L → St S w0 w Γ → (results fn a.tmps).run P w = .ok v w) (h : ∀ w, St S w0 w Γ → R (.returned v) w) : Ex (bodyPost P fn R) .ret n L S w0 Γ :=
  fun a w hf hs => bodyPost_ret (hv a w hf hs) hf.d (h w hs)

/-! ### 5. One operation -/
/-- In every such state the operation yields v and leaves the world alone. -/
def Pure (P : Program) (n : Nat) (L : List (Nat × Value)) (C : World → Prop) (op : Op) (ty : TypeId) (v : Value) : Prop :=
  ∀ a w dst pos after g, Fr a n L → C w → (execOp a.eval ⟨dst, op, ty, pos, after, g⟩).run P w = .ok (.value v) w

theorem at_pure {op : Op} {ty : TypeId} {pos : String} {after : Array Edge} (h : Pure P n L (fun w => St S w0 w Γ) op ty v) (hd : Nat.blt d n = true) (k : At P ops Q rest n ((d, v) :: L) S w0 Γ) :
    At P ops Q (⟨some d, op, ty, pos, after, none⟩ :: rest) n L S w0 Γ := fun a w hf hs =>
  wpList_plain rfl fun K hK => by
    unfold Oper.wp
    rw [h a w _ _ _ _ hf hs]
    exact hK _ _ (k _ _ (hf.put hd v) hs)

theorem yielded_of {a : Act} {j t : Nat} {b : Bool} (hf : Fr a n L) (hj : (ops[j]?).bind (·.dst) = some t) (hv : lk t L = some (.bool b)) : yielded ops a.tmps j = some b := by
  have h := hf.g t _ hv
  unfold yielded
  rw [hj]
  rw [Array.getD_eq_getD_getElem?] at h
  cases ht : a.tmps[t]? with
  | none => rw [ht] at h; cases h
  | some u =>
    rw [ht] at h
    simp only [Option.getD_some] at h
    subst h
    simp [ht]

/-- A guarded operation that runs. -/
theorem at_pure_g {op : Op} {ty : TypeId} {pos : String} {after : Array Edge} {j t : Nat} {b b' : Bool} (hj : (ops[j]?).bind (·.dst) = some t) (hb' : lk t L = some (.bool b')) (he : b' = b)
    (h : Pure P n L (fun w => St S w0 w Γ) op ty v) (hd : Nat.blt d n = true) (k : At P ops Q rest n ((d, v) :: L) S w0 Γ) :
    At P ops Q (⟨some d, op, ty, pos, after, some (j, b)⟩ :: rest) n L S w0 Γ := fun a w hf hs =>
  wpList_step fun K hK => by
    have hb : lk t L = some (.bool b) := by rw [hb', he]
    rw [if_pos (by simp [Region.wanted, yielded_of hf hj hb])]
    unfold Oper.wp
    rw [h a w _ _ _ _ hf hs]
    exact hK _ _ (k _ _ (hf.put hd v) hs)
/-- A guarded operation that is passed over. -/
theorem at_skip {op : Op} {ty : TypeId} {pos : String} {after : Array Edge} {j t : Nat} {b b' : Bool} (hj : (ops[j]?).bind (·.dst) = some t) (hb : lk t L = some (.bool b')) (he : b' = !b)
    (hd : Nat.blt d n = true) (k : At P ops Q rest n ((d, undef) :: L) S w0 Γ) : At P ops Q (⟨some d, op, ty, pos, after, some (j, b)⟩ :: rest) n L S w0 Γ := fun a w hf hs =>
  wpList_step fun K hK => by
    have : ¬ b' = b := by rw [he]; cases b <;> simp
    rw [if_neg (by simp [Region.wanted, yielded_of hf hj hb, this])]
    exact hK _ _ (k _ _ (hf.put hd _) hs)
/-- The walk parts on a bool. -/
theorem at_split (t : Nat) {b : Bool} (hb : lk t L = some (.bool b)) (h1 : b = true → At P ops Q rest n L S w0 Γ) (h2 : b = false → At P ops Q rest n L S w0 Γ) : At P ops Q rest n L S w0 Γ := by
  cases b
  · exact h2 rfl
  · exact h1 rfl

variable {C : World → Prop} {ty : TypeId} {x y c : Operand}
theorem pv_move (h : ev L x = some v) : Pure P n L C (.move x) ty v := fun a w _ _ _ _ hf hc => by simp only [execOp]; rw [hf.at_ h]; rfl
theorem pv_assign (h : ev L x = some v) : Pure P n L C (.assign x) ty v := fun a w _ _ _ _ hf hc => by simp only [execOp]; rw [hf.at_ h]; rfl
theorem pv_pick_t {b : Bool} (hc : ev L c = some (.bool b)) (he : b = true) (h : ev L x = some v) : Pure P n L C (.pick c x y) ty v := fun a w _ _ _ _ hf _ => by
  simp only [execOp]; rw [hf.at_ hc, hf.at_ h, he]; rfl
theorem pv_pick_f {b : Bool} (hc : ev L c = some (.bool b)) (he : b = false) (h : ev L y = some v) : Pure P n L C (.pick c x y) ty v := fun a w _ _ _ _ hf _ => by
  simp only [execOp]; rw [hf.at_ hc, hf.at_ h, he]; rfl
theorem pv_pick_b {b p q : Bool} (hc : ev L c = some (.bool b)) (h : ev L x = some (.bool p)) (h' : ev L y = some (.bool q)) : Pure P n L C (.pick c x y) ty (.bool (bif b then p else q)) := fun a w _ _ _ _ hf _ => by
  simp only [execOp]; rw [hf.at_ hc, hf.at_ h, hf.at_ h']; cases b <;> rfl
section
variable {k : IntKind} {p q : Int} {t t' : TypeId}
theorem pv_eql (hx : ev L x = some (.int k p)) (hy : ev L y = some (.int k q)) : Pure P n L C (.binOp .eql t x y t') ty (.bool (p == q)) := fun a w _ _ _ _ hf _ => by
  simp only [execOp]; rw [hf.at_ hx, hf.at_ hy, eqGuard_at_int, binOp_eql]; rfl
theorem pv_neq (hx : ev L x = some (.int k p)) (hy : ev L y = some (.int k q)) : Pure P n L C (.binOp .neq t x y t') ty (.bool (p != q)) := fun a w _ _ _ _ hf _ => by
  simp only [execOp]; rw [hf.at_ hx, hf.at_ hy, eqGuard_at_int, binOp_neq]; rfl
theorem pv_lss (hx : ev L x = some (.int k p)) (hy : ev L y = some (.int k q)) : Pure P n L C (.binOp .lss t x y t') ty (.bool (decide (p < q))) := fun a w _ _ _ _ hf _ => by
  simp only [execOp]; rw [hf.at_ hx, hf.at_ hy, eqGuard_at_int, binOp_lss]; rfl
theorem pv_leq (hx : ev L x = some (.int k p)) (hy : ev L y = some (.int k q)) : Pure P n L C (.binOp .leq t x y t') ty (.bool (decide (p ≤ q))) := fun a w _ _ _ _ hf _ => by
  simp only [execOp]; rw [hf.at_ hx, hf.at_ hy, eqGuard_at_int, binOp_leq]; rfl
theorem pv_gtr (hx : ev L x = some (.int k p)) (hy : ev L y = some (.int k q)) : Pure P n L C (.binOp .gtr t x y t') ty (.bool (decide (q < p))) := fun a w _ _ _ _ hf _ => by
  simp only [execOp]; rw [hf.at_ hx, hf.at_ hy, eqGuard_at_int, binOp_gtr]; rfl
theorem pv_geq (hx : ev L x = some (.int k p)) (hy : ev L y = some (.int k q)) : Pure P n L C (.binOp .geq t x y t') ty (.bool (decide (q ≤ p))) := fun a w _ _ _ _ hf _ => by
  simp only [execOp]; rw [hf.at_ hx, hf.at_ hy, eqGuard_at_int, binOp_geq]; rfl
theorem wrap_i64 (z : Int) : IntKind.i64.wrap z = wrap64 z := by rw [IntKind.wrap_i64]; unfold wrap64; rfl
theorem pv_add (hx : ev L x = some (.int .i64 p)) (hy : ev L y = some (.int .i64 q)) : Pure P n L C (.binOp .add t x y t') ty (.int .i64 (wrap64 (p + q))) := fun a w _ _ _ _ hf _ => by
  simp only [execOp]; rw [hf.at_ hx, hf.at_ hy, eqGuard_at_int, binOp_add, ← wrap_i64]; rfl
theorem pv_sub (hx : ev L x = some (.int .i64 p)) (hy : ev L y = some (.int .i64 q)) : Pure P n L C (.binOp .sub t x y t') ty (.int .i64 (wrap64 (p - q))) := fun a w _ _ _ _ hf _ => by
  simp only [execOp]; rw [hf.at_ hx, hf.at_ hy, eqGuard_at_int, binOp_sub, ← wrap_i64]; rfl
theorem pv_mul (hx : ev L x = some (.int .i64 p)) (hy : ev L y = some (.int .i64 q)) : Pure P n L C (.binOp .mul t x y t') ty (.int .i64 (wrap64 (p * q))) := fun a w _ _ _ _ hf _ => by
  simp only [execOp]; rw [hf.at_ hx, hf.at_ hy, eqGuard_at_int, binOp_mul, ← wrap_i64]; rfl
/-- A number in range. -/
def In64 (z : Int) : Prop := -9223372036854775808 ≤ z ∧ z ≤ 9223372036854775807
theorem wrap64_in {z : Int} (h : In64 z) : wrap64 z = z := by unfold In64 at h; unfold wrap64; omega
theorem pv_add_n (hx : ev L x = some (.int .i64 p)) (hy : ev L y = some (.int .i64 q)) (h : In64 (p + q)) : Pure P n L C (.binOp .add t x y t') ty (.int .i64 (p + q)) := wrap64_in h ▸ pv_add hx hy
theorem pv_sub_n (hx : ev L x = some (.int .i64 p)) (hy : ev L y = some (.int .i64 q)) (h : In64 (p - q)) : Pure P n L C (.binOp .sub t x y t') ty (.int .i64 (p - q)) := wrap64_in h ▸ pv_sub hx hy
theorem pv_mul_n (hx : ev L x = some (.int .i64 p)) (hy : ev L y = some (.int .i64 q)) (h : In64 (p * q)) : Pure P n L C (.binOp .mul t x y t') ty (.int .i64 (p * q)) := wrap64_in h ▸ pv_mul hx hy
/-- The same, where nothing wraps: the value is given with its reason. -/
theorem pv_add' {r : Int} (hx : ev L x = some (.int .i64 p)) (hy : ev L y = some (.int .i64 q)) (hr : wrap64 (p + q) = r) : Pure P n L C (.binOp .add t x y t') ty (.int .i64 r) := hr ▸ pv_add hx hy
theorem pv_sub' {r : Int} (hx : ev L x = some (.int .i64 p)) (hy : ev L y = some (.int .i64 q)) (hr : wrap64 (p - q) = r) : Pure P n L C (.binOp .sub t x y t') ty (.int .i64 r) := hr ▸ pv_sub hx hy
theorem pv_mul' {r : Int} (hx : ev L x = some (.int .i64 p)) (hy : ev L y = some (.int .i64 q)) (hr : wrap64 (p * q) = r) : Pure P n L C (.binOp .mul t x y t') ty (.int .i64 r) := hr ▸ pv_mul hx hy
theorem pv_quo (hx : ev L x = some (.int .i64 p)) (hy : ev L y = some (.int .i64 q)) (h0 : q ≠ 0) : Pure P n L C (.binOp .quo t x y t') ty (.int .i64 (wrap64 (p.tdiv q))) := fun a w _ _ _ _ hf _ => by
  simp only [execOp]; rw [hf.at_ hx, hf.at_ hy, eqGuard_at_int, binOp_quo, ← wrap_i64]
  simp [Op.intDiv, h0]
theorem pv_quo_n (hx : ev L x = some (.int .i64 p)) (hy : ev L y = some (.int .i64 q)) (h0 : 0 ≤ p ∧ 0 < q ∧ p ≤ 9223372036854775807) : Pure P n L C (.binOp .quo t x y t') ty (.int .i64 (p / q)) := by
  have e : wrap64 (p.tdiv q) = p / q := by
    rw [Int.tdiv_eq_ediv_of_nonneg h0.1]
    refine wrap64_in ⟨?_, ?_⟩
    · have := Int.ediv_nonneg h0.1 (show 0 ≤ q by omega); omega
    · have := Int.ediv_le_self q h0.1; omega
  exact e ▸ pv_quo hx hy (by omega)
theorem pv_rem (hx : ev L x = some (.int .i64 p)) (hy : ev L y = some (.int .i64 q)) (h0 : q ≠ 0) : Pure P n L C (.binOp .rem t x y t') ty (.int .i64 (p.tmod q)) := fun a w _ _ _ _ hf _ => by
  simp only [execOp]; rw [hf.at_ hx, hf.at_ hy, eqGuard_at_int, binOp_rem]
  simp [Op.intDiv, h0]
theorem pv_neg (hx : ev L x = some (.int .i64 p)) : Pure P n L C (.unOp .neg t x) ty (.int .i64 (wrap64 (-p))) := fun a w _ _ _ _ hf _ => by
  simp only [execOp]; rw [hf.at_ hx, unary_neg, ← wrap_i64]
  simp [Op.intArith]
theorem pv_max (hx : ev L x = some (.int k p)) (hy : ev L y = some (.int k q)) {at_ : Array TypeId} : Pure P n L C (.call ⟨.builtin .max, #[x, y], at_⟩) ty (.int k (if q > p then q else p)) := fun a w _ _ _ _ hf _ => by
  simp [execOp, resolve, invoke, builtin, hf.at_ hx, hf.at_ hy, run_max_int2]
theorem pv_min (hx : ev L x = some (.int k p)) (hy : ev L y = some (.int k q)) {at_ : Array TypeId} : Pure P n L C (.call ⟨.builtin .min, #[x, y], at_⟩) ty (.int k (if q < p then q else p)) := fun a w _ _ _ _ hf _ => by
  simp [execOp, resolve, invoke, builtin, hf.at_ hx, hf.at_ hy, run_min_int2]
end
theorem pv_not {b : Bool} {t : TypeId} (hx : ev L x = some (.bool b)) : Pure P n L C (.unOp .not t x) ty (.bool (!b)) := fun a w _ _ _ _ hf _ => by
  simp only [execOp]; rw [hf.at_ hx, unary_not]; rfl
theorem pv_eql_b {b b' : Bool} {t t' : TypeId} (ht : P.underlying t = some .bool) (hx : ev L x = some (.bool b)) (hy : ev L y = some (.bool b')) : Pure P n L C (.binOp .eql t x y t') ty (.bool (b == b')) := fun a w _ _ _ _ hf _ => by
  simp only [execOp]; rw [hf.at_ hx, hf.at_ hy, eqGuard_at_bool]; simp [run_eql_bool w t b b' ht]
theorem pv_neq_b {b b' : Bool} {t t' : TypeId} (ht : P.underlying t = some .bool) (hx : ev L x = some (.bool b)) (hy : ev L y = some (.bool b')) : Pure P n L C (.binOp .neq t x y t') ty (.bool (b != b')) := fun a w _ _ _ _ hf _ => by
  simp only [execOp]; rw [hf.at_ hx, hf.at_ hy, eqGuard_at_bool]; simp [run_neq_bool w t b b' ht, bne]
theorem pv_extract {i : Nat} {vs : Array Value} (hx : ev L x = some (.tuple vs)) (hi : vs[i]? = some v) : Pure P n L C (.extract x i) ty v := fun a w _ _ _ _ hf _ => by
  simp only [execOp]; rw [hf.at_ hx]; simp [Instr.extract, hi]
theorem pv_nilCheck {p : Addr} (hx : ev L x = some (.pointer (some p))) : Pure P n L C (.nilCheck x) ty (.pointer (some p)) := fun a w _ _ _ _ hf _ => by
  simp only [execOp]; rw [hf.at_ hx]; rfl
theorem pv_len {A : Option Addr} {m cap : Nat} {t e : TypeId} (ht : P.underlying t = some (.slice e)) (hx : ev L x = some (.slice A m cap)) : Pure P n L C (.call ⟨.builtin .len, #[x], #[t]⟩) ty (.int .i64 m) := fun a w _ _ _ _ hf _ => by
  simp [execOp, resolve, invoke, builtin, hf.at_ hx, Builtin.len_, run_underlying ht, goInt]
theorem pv_makeFunc {f : Fn} {xs ys : Array Operand} {us vs : List Value} (hx : evs L xs.toList = some us) (hy : evs L ys.toList = some vs) : Pure P n L C (.makeFunc f xs ys) ty (.func f us.toArray vs.toArray) := fun a w _ _ _ _ hf _ => by
  have e1 : xs.map a.eval = us.toArray := by apply Array.ext'; rw [Array.toList_map, hf.ats hx]
  have e2 : ys.map a.eval = vs.toArray := by apply Array.ext'; rw [Array.toList_map, hf.ats hy]
  simp [execOp, Instr.makeFunc, e1, e2]

/-- Field k of the struct type T lies at offset o: a closed fact. -/
def fieldB (P : Program) (T k o : Nat) : Bool := match P.underlying T with
  | some (.struct fs) => (match fs[k]? with | some f => Nat.beq f.offset o && !Nat.beq (P.cellsOf f.type) 0 | none => false)
  | _ => false
theorem cellsOf_info {t : TypeId} (h : Nat.beq (P.cellsOf t) 0 = false) : ∃ i, P.info? t = some i ∧ i.size = P.cellsOf t := by
  unfold Program.cellsOf at *
  cases h1 : P.info? t with
  | none => rw [h1] at h; simp at h
  | some i => exact ⟨i, rfl, by simp⟩
theorem pv_fieldAddr {T k o : Nat} {p : Addr} (hT : fieldB P T k o = true) (hx : ev L x = some (.pointer (some p))) : Pure P n L C (.fieldAddr T x k) ty (.pointer (some (p.add o))) := fun a w _ _ _ _ hf _ => by
  unfold fieldB at hT
  split at hT
  · rename_i fs h1
    split at hT
    · rename_i f h2
      simp only [Bool.and_eq_true, Bool.not_eq_true'] at hT
      obtain ⟨i, h4, h5⟩ := cellsOf_info hT.2
      have h3 : f.offset = o := by simpa using hT.1
      have h5' : ¬ i.size = 0 := by intro e; have := hT.2; rw [← h5, e] at this; simp at this
      simp only [execOp]; rw [hf.at_ hx]
      simp [Instr.fieldAt, Instr.sureAddr, run_underlying h1, h2, fieldPlace, sizeOf, typeInfo, h4, h5', h3]
    · cases hT
  · cases hT
/-- .. of a variable whose address is written out. -/
theorem pv_field0 {T k o g off : Nat} (hT : fieldB P T k o = true) (hx : ev L x = some (.pointer (some ⟨g, off, none⟩))) {r : Nat} (hr : off + o = r) : Pure P n L C (.fieldAddr T x k) ty (.pointer (some ⟨g, r, none⟩)) := by
  have := pv_fieldAddr (n := n) (C := C) (ty := ty) hT hx
  rw [Addr.add_lit, hr] at this
  exact this
theorem pv_build {T : TypeId} {parts : Array (Nat × Operand)} {vs : List Value} {cs : Array Value} (hx : evs L (parts.toList.map (·.2)) = some vs) (hb : P.built T ((parts.toList.map (·.1)).zip vs) = some cs) :
    Pure P n L C (.build T parts) ty (.agg cs) := fun a w _ _ _ _ hf _ => by
  have e : (parts.map fun (i, x) => (i, a.eval x)).toList = (parts.toList.map (·.1)).zip vs := by
    rw [← hf.ats hx]
    rw [Array.toList_map]
    induction parts.toList with
    | nil => rfl
    | cons z l ih => simp [ih]
  simp only [execOp]
  have := run_build (P := P) w T (parts.map fun (i, x) => (i, a.eval x)) cs (by rw [e]; exact hb)
  simp [this]
/-- T is a type of one cell: a closed fact. -/
def cellB (P : Program) (T : TypeId) : Bool := match P.underlying T with
  | none | some (.struct _) | some (.array _ _) => false
  | some _ => true
theorem pv_load {T : TypeId} {p : Addr} (hT : cellB P T = true) (hx : ev L x = some (.pointer (some p))) (hc : ∀ w, C w → w.cell? p = some v) : Pure P n L C (.load T x) ty v := fun a w _ _ _ _ hf hC => by
  simp only [execOp]; rw [hf.at_ hx]
  have h3 : (isAgg T).run P w = .ok false w := by
    unfold cellB at hT
    unfold isAgg
    cases h1 : P.underlying T with
    | none => rw [h1] at hT; cases hT
    | some d => rw [h1] at hT; cases d <;> simp_all [run_underlying h1]
  simp [Instr.loadAt, Instr.sureAddr, loadVar, h3, load, Sem.run, hc w hC]
/-- T is a struct or an array of m cells, m not nought: a closed fact. -/
def aggB (P : Program) (T : TypeId) (m : Nat) : Bool := (match P.underlying T with
  | some (.struct _) | some (.array _ _) => true
  | _ => false) && Nat.beq (P.cellsOf T) m && !Nat.beq m 0
theorem pv_loads {T : TypeId} {p : Addr} {cs : List Value} (hT : aggB P T cs.length = true) (hx : ev L x = some (.pointer (some p)))
    (hc : ∀ w, C w → ∀ j u, cs[j]? = some u → w.cell? (p.add j) = some u) : Pure P n L C (.load T x) ty (.agg cs.toArray) := fun a w _ _ _ _ hf hC => by
  simp only [aggB, Bool.and_eq_true, Bool.not_eq_true'] at hT
  obtain ⟨⟨hA, hB⟩, hD⟩ := hT
  have hB' : P.cellsOf T = cs.length := by simpa using hB
  obtain ⟨i, h3, h4⟩ := cellsOf_info (P := P) (t := T) (by rw [hB']; exact hD)
  simp only [execOp]; rw [hf.at_ hx]
  have h5 : (isAgg T).run P w = .ok true w := by
    unfold isAgg
    cases h1 : P.underlying T with
    | none => rw [h1] at hA; cases hA
    | some d => rw [h1] at hA; cases d <;> simp_all [run_underlying h1]
  have h6 := run_loadCells_list (P := P) (w := w) p cs (hc w hC)
  simp [Instr.loadAt, Instr.sureAddr, loadVar, h5, sizeOf, typeInfo, h3, h4, hB', h6]

/-! ### '==' of structs of numbers and bools -/
/-- The type T is a struct of numbers (true) and bools (false), one cell each: a closed fact. -/
def fieldsB (P : Program) : List Field → Nat → List Bool → Bool
  | [], _, [] => true
  | f :: fs, i, b :: bs => (f.name != "_") && Nat.beq f.offset i && (match P.underlying f.type, b with | some (.int _), true => true | some .bool, false => true | _, _ => false) && fieldsB P fs (i + 1) bs
  | _, _, _ => false
def structB (P : Program) (T : TypeId) (bs : List Bool) : Bool := (match P.underlying T with | some (.struct fs) => fieldsB P fs.toList 0 bs | _ => false) && !P.stoodInHeld T && !P.eqGuardType P.depth T
def kOk : List Bool → List Value → List Value → Bool
  | [], [], [] => true
  | true :: ks, .int k _ :: xs, .int k' _ :: ys => decide (k = k') && kOk ks xs ys
  | false :: ks, .bool _ :: xs, .bool _ :: ys => kOk ks xs ys
  | _, _, _ => false
def eqCells : List Value → List Value → Bool
  | .int _ p :: xs, .int _ q :: ys => (p == q) && eqCells xs ys
  | .bool p :: xs, .bool q :: ys => (p == q) && eqCells xs ys
  | _, _ => true

theorem eqFields_run (d : Nat) (xs ys : Array Value) (w : World) : ∀ (fs : List Field) (i : Nat) (bs : List Bool) (us vs : List Value), fieldsB P fs i bs = true → kOk bs us vs = true → xs.toList.drop i = us → ys.toList.drop i = vs →
    (Op.eqFields (d + 1) xs ys fs).run P w = .ok (eqCells us vs) w := by
  intro fs
  induction fs with
  | nil =>
    intro i bs us vs hf hk hx hy
    cases bs with
    | nil =>
      cases us with
      | nil => simp [Op.eqFields, eqCells]
      | cons u us => cases vs <;> simp [kOk] at hk
    | cons b bs => simp [fieldsB] at hf
  | cons f fs ih =>
    intro i bs us vs hf hk hx hy
    cases bs with
    | nil => simp [fieldsB] at hf
    | cons b bs =>
      simp only [fieldsB, Bool.and_eq_true, bne_iff_ne] at hf
      obtain ⟨⟨⟨h1, h2⟩, h3⟩, h4⟩ := hf
      have h2' : f.offset = i := by simpa using h2
      cases us with
      | nil => cases b <;> simp [kOk] at hk
      | cons u us =>
        cases vs with
        | nil => cases b <;> cases u <;> simp [kOk] at hk
        | cons v vs =>
          have hu : xs[i]? = some u := by
            have := congrArg List.head? hx
            simpa [List.head?_drop] using this
          have hv : ys[i]? = some v := by
            have := congrArg List.head? hy
            simpa [List.head?_drop] using this
          have hx' : xs.toList.drop (i + 1) = us := by rw [← List.drop_drop, hx]; rfl
          have hy' : ys.toList.drop (i + 1) = vs := by rw [← List.drop_drop, hy]; rfl
          cases b with
          | true =>
            cases hd : P.underlying f.type with
            | none => rw [hd] at h3; simp at h3
            | some de =>
              cases de with
              | int kk =>
                cases u with
                | int ku p =>
                  cases v with
                  | int kv q =>
                    simp only [kOk, Bool.and_eq_true, decide_eq_true_eq] at hk
                    obtain ⟨rfl, hk⟩ := hk
                    have hr := ih (i + 1) bs us vs h4 hk hx' hy'
                    have hA : (isAgg f.type).run P w = .ok false w := by unfold isAgg; simp [run_underlying hd]
                    have hpx : (part f.type xs f.offset).run P w = .ok (.int ku p) w := by simp [part, hA, h2', hu]
                    have hpy : (part f.type ys f.offset).run P w = .ok (.int ku q) w := by simp [part, hA, h2', hv]
                    have hE : (Op.equalIn (d + 1) f.type (.int ku p) (.int ku q)).run P w = .ok (p == q) w := by
                      simp [Op.equalIn, run_underlying hd]
                    rw [Op.eqFields]
                    simp only [if_pos h1, Sem.run_bind, hpx, hpy, hE, Result.andThen_ok, eqCells]
                    cases hpq : (p == q)
                    · simp
                    · simpa using hr
                  | _ => simp [kOk] at hk
                | _ => simp [kOk] at hk
              | _ => rw [hd] at h3; simp at h3
          | false =>
            cases hd : P.underlying f.type with
            | none => rw [hd] at h3; simp at h3
            | some de =>
              cases de with
              | bool =>
                cases u with
                | bool p =>
                  cases v with
                  | bool q =>
                    simp only [kOk] at hk
                    have hr := ih (i + 1) bs us vs h4 hk hx' hy'
                    have hA : (isAgg f.type).run P w = .ok false w := by unfold isAgg; simp [run_underlying hd]
                    have hpx : (part f.type xs f.offset).run P w = .ok (.bool p) w := by simp [part, hA, h2', hu]
                    have hpy : (part f.type ys f.offset).run P w = .ok (.bool q) w := by simp [part, hA, h2', hv]
                    have hE : (Op.equalIn (d + 1) f.type (.bool p) (.bool q)).run P w = .ok (p == q) w := run_equalIn_bool w d f.type p q hd
                    rw [Op.eqFields]
                    simp only [if_pos h1, Sem.run_bind, hpx, hpy, hE, Result.andThen_ok, eqCells]
                    cases hpq : (p == q)
                    · simp
                    · simpa using hr
                  | _ => simp [kOk] at hk
                | _ => simp [kOk] at hk
              | _ => rw [hd] at h3; simp at h3

theorem run_eqStruct {T : TypeId} {ks : List Bool} {xs ys : List Value} (hs : structB P T ks = true) (hk : kOk ks xs ys = true) (w : World) : (Op.equalIn 10000 T (.agg xs.toArray) (.agg ys.toArray)).run P w = .ok (eqCells xs ys) w := by
  simp only [structB, Bool.and_eq_true, Bool.not_eq_true'] at hs
  obtain ⟨⟨h1, h2⟩, h3⟩ := hs
  cases hd : P.underlying T with
  | none => rw [hd] at h1; simp at h1
  | some de =>
    cases de with
    | struct fs =>
      rw [hd] at h1
      have hf : P.fieldsOf T = fs := by simp [Program.fieldsOf, hd]
      rw [run_equalIn_struct (P := P) w 9999 T xs.toArray ys.toArray (by rw [hf]; exact hd) h2, hf]
      exact eqFields_run 9998 xs.toArray ys.toArray w fs.toList 0 ks xs ys h1 hk (by simp) (by simp)
    | _ => rw [hd] at h1; simp at h1
theorem structB_guard {T : TypeId} {ks : List Bool} (hs : structB P T ks = true) : P.eqGuardType P.depth T = false := by
  simp only [structB, Bool.and_eq_true, Bool.not_eq_true'] at hs
  exact hs.2
theorem pv_eqls {T t' : TypeId} {ks : List Bool} {xs ys : List Value} (hs : structB P T ks = true) (hx : ev L x = some (.agg xs.toArray)) (hy : ev L y = some (.agg ys.toArray)) (hk : kOk ks xs ys = true) : Pure P n L C (.binOp .eql T x y t') ty (.bool (eqCells xs ys)) := fun a w _ _ _ _ hf _ => by
  simp only [execOp]; rw [hf.at_ hx, hf.at_ hy]
  simp [run_eqGuard_agg w .eql T x y xs.toArray ys.toArray (structB_guard hs), run_eql_struct w T xs.toArray ys.toArray, run_eqStruct hs hk w]
theorem pv_neqls {T t' : TypeId} {ks : List Bool} {xs ys : List Value} (hs : structB P T ks = true) (hx : ev L x = some (.agg xs.toArray)) (hy : ev L y = some (.agg ys.toArray)) (hk : kOk ks xs ys = true) : Pure P n L C (.binOp .neq T x y t') ty (.bool (!eqCells xs ys)) := fun a w _ _ _ _ hf _ => by
  simp only [execOp]; rw [hf.at_ hx, hf.at_ hy]
  simp [run_eqGuard_agg w .neq T x y xs.toArray ys.toArray (structB_guard hs), run_neq_struct w T xs.toArray ys.toArray, run_eqStruct hs hk w]
theorem eqCells_self : ∀ xs : List Value, eqCells xs xs = true
  | [] => rfl
  | x :: xs => by cases x <;> simp [eqCells, eqCells_self xs]
theorem pv_eqls_same {T t' : TypeId} {ks : List Bool} {xs : List Value} (hs : structB P T ks = true) (hx : ev L x = some (.agg xs.toArray)) (hy : ev L y = some (.agg xs.toArray)) (hk : kOk ks xs xs = true) : Pure P n L C (.binOp .eql T x y t') ty (.bool true) := by
  have := pv_eqls (n := n) (C := C) (ty := ty) (t' := t') hs hx hy hk
  rwa [eqCells_self] at this
theorem pv_neqls_same {T t' : TypeId} {ks : List Bool} {xs : List Value} (hs : structB P T ks = true) (hx : ev L x = some (.agg xs.toArray)) (hy : ev L y = some (.agg xs.toArray)) (hk : kOk ks xs xs = true) : Pure P n L C (.binOp .neq T x y t') ty (.bool false) := by
  have := pv_neqls (n := n) (C := C) (ty := ty) (t' := t') hs hx hy hk
  rwa [eqCells_self] at this
/-- Numbers that are the same. -/
theorem pv_eql_same {k : IntKind} {p : Int} {t t' : TypeId} (hx : ev L x = some (.int k p)) (hy : ev L y = some (.int k p)) : Pure P n L C (.binOp .eql t x y t') ty (.bool true) := by
  have := pv_eql (P := P) (n := n) (C := C) (ty := ty) (t := t) (t' := t') hx hy
  simpa using this
theorem pv_neq_same {k : IntKind} {p : Int} {t t' : TypeId} (hx : ev L x = some (.int k p)) (hy : ev L y = some (.int k p)) : Pure P n L C (.binOp .neq t x y t') ty (.bool false) := by
  have := pv_neq (P := P) (n := n) (C := C) (ty := ty) (t := t) (t' := t') hx hy
  simpa using this
theorem pv_neq_b_same {b : Bool} {t t' : TypeId} (ht : P.underlying t = some .bool) (hx : ev L x = some (.bool b)) (hy : ev L y = some (.bool b)) : Pure P n L C (.binOp .neq t x y t') ty (.bool false) := by
  have := pv_neq_b (n := n) (C := C) (ty := ty) (t' := t') ht hx hy
  simpa using this
theorem pv_eql_b_same {b : Bool} {t t' : TypeId} (ht : P.underlying t = some .bool) (hx : ev L x = some (.bool b)) (hy : ev L y = some (.bool b)) : Pure P n L C (.binOp .eql t x y t') ty (.bool true) := by
  have := pv_eql_b (n := n) (C := C) (ty := ty) (t' := t') ht hx hy
  simpa using this

end
end Go.Proofs.YtkejdfnpbkdllaaV
