/- Pieces in another order; calls that use pieces up and hand pieces back; rows of rows; copy; operations on other kinds of numbers. No program is named here. -/
import Derived.Test.YtkejdfnpbkdllaaVK
import Derived.Laws.CopyOwn
namespace Go.Proofs.YtkejdfnpbkdllaaV
open Go Go.RowKit
set_option linter.unusedVariables false
set_option linter.unusedSimpArgs false

section
variable {P : Program} {S : List Nat} {w0 w w' : World} {Γ Γ' Γ1 Δ : List Piece} {L L' : List (Nat × Value)} {n : Nat} {ops : Array Oper} {rest : List Oper} {Q : Exit → Act → World → Prop} {o : Oper} {d : Nat} {v : Value}
variable {ty : TypeId} {x y z c : Operand} {pos : String} {after : Array Edge} {op : Op} {C : World → Prop} {t T e : TypeId}

/-! ### 14. Another order -/
theorem St.perm (hs : St S w0 w Γ) (hp : Γ'.Perm Γ) : St S w0 w Γ' :=
  ⟨hs.keep, fun p hm => hs.hold p (hp.mem_iff.1 hm), fun p hm => hs.ins p (hp.mem_iff.1 hm), (hp.symm.pairwise_iff (fun {p q} (h : ∀ k ∈ p.foot, k ∉ q.foot) k hk hk' => h k hk' hk)).1 hs.apart⟩
theorem ex_meet_p {σ : Type} {Lf : σ → List (Nat × Value)} {Γf : σ → List Piece} {good : σ → Prop} (s : σ) (hg : good s) (hL : Sub (Lf s) L) (hp : Γ'.Perm Γ) (hΓ : (Γf s).Sublist Γ') :
    Ex (Exit.then (fun a w => ∃ s, good s ∧ Fr a n (Lf s) ∧ St S w0 w (Γf s)) Q) .normal n L S w0 Γ := fun a w hf hs => ⟨s, hg, hf.sub hL, (hs.perm hp).sub hΓ⟩
theorem Cd.perm {c : Code} (h : Cd P c Q n L S w0 Γ') (hp : Γ'.Perm Γ) : Cd P c Q n L S w0 Γ := fun a w hf hs => h a w hf (hs.perm hp)
theorem At.perm (h : At P ops Q rest n L S w0 Γ') (hp : Γ'.Perm Γ) : At P ops Q rest n L S w0 Γ := fun a w hf hs => h a w hf (hs.perm hp)

/-! ### 15. Calls that use pieces -/
def foots (Δ : List Piece) : List Nat := Δ.flatMap (·.foot)
theorem mem_foots {k : Nat} {Δ : List Piece} : k ∈ foots Δ ↔ ∃ p ∈ Δ, k ∈ p.foot := List.mem_flatMap
/-- What a call hands back that uses the pieces Δ. -/
def Uses {X : Type} (Δ : List Piece) (val : X → Value) (good : X → Prop) (Δ' : X → List Piece) (w : World) : Ending → World → Prop :=
  fun e w' => ∃ z, good z ∧ e = .returned (val z) ∧ St (foots Δ) w w' (Δ' z)
theorem Uses.mk {X : Type} {val : X → Value} {good : X → Prop} {Δ' : X → List Piece} (z : X) (hg : good z) (hv : v = val z) (hs : St (foots Δ) w0 w Γ) (hsub : (Δ' z).Sublist Γ) : Uses Δ val good Δ' w0 (.returned v) w := ⟨z, hg, by rw [hv], hs.sub hsub⟩
theorem Uses.mk_p {X : Type} {val : X → Value} {good : X → Prop} {Δ' : X → List Piece} (z : X) (hg : good z) (hv : v = val z) (hs : St (foots Δ) w0 w Γ) (hp : Γ'.Perm Γ) (hsub : (Δ' z).Sublist Γ') : Uses Δ val good Δ' w0 (.returned v) w := ⟨z, hg, by rw [hv], (hs.perm hp).sub hsub⟩
/-- The callee's start. -/
theorem St.own' (hs : St S w0 w (Γ ++ Δ)) : St (foots Δ) w w Δ := by
  have h := hs.sub (List.sublist_append_right Γ Δ)
  exact ⟨.refl _ _, h.hold, fun p hp k hk => ⟨(h.ins p hp k hk).1, .inr (mem_foots.2 ⟨p, hp, hk⟩)⟩, h.apart⟩
theorem St.used {Δ' : List Piece} (hs : St S w0 w (Γ ++ Δ)) (h : St (foots Δ) w w' Δ') : St S w0 w' (Γ ++ Δ') := by
  have hd := hs.sub (List.sublist_append_right Γ Δ)
  have hg := hs.sub (List.sublist_append_left Γ Δ)
  have hap := List.pairwise_append.1 hs.apart
  have far : ∀ p ∈ Γ, ∀ k ∈ p.foot, k ∉ foots Δ := fun p hp k hk hk' => by
    obtain ⟨q, hq, hkq⟩ := mem_foots.1 hk'
    exact hap.2.2 p hp q hq k hk hkq
  refine ⟨⟨h.keep.os.trans hs.keep.os, h.keep.tape.trans hs.keep.tape, h.keep.output.trans hs.keep.output, Nat.le_trans hs.keep.size h.keep.size, fun k hk hS => ?_⟩, fun p hp => ?_, fun p hp k hk => ?_, ?_⟩
  · refine (h.keep.block k (Nat.lt_of_lt_of_le hk hs.keep.size) (fun hx => ?_)).trans (hs.keep.block k hk hS)
    obtain ⟨q, hq, hkq⟩ := mem_foots.1 hx
    rcases (hd.ins q hq k hkq).2 with h1 | h1
    · omega
    · exact hS h1
  · rcases List.mem_append.1 hp with hp | hp
    · exact p.loc w w' (fun k hk => h.keep.block k (hg.ins p hp k hk).1 (far p hp k hk)) (hg.hold p hp)
    · exact h.hold p hp
  · rcases List.mem_append.1 hp with hp | hp
    · have := hg.ins p hp k hk
      exact ⟨Nat.lt_of_lt_of_le this.1 h.keep.size, this.2⟩
    · have h1 := h.ins p hp k hk
      refine ⟨h1.1, ?_⟩
      rcases h1.2 with h2 | h2
      · exact .inl (Nat.le_trans hs.keep.size h2)
      · obtain ⟨q, hq, hkq⟩ := mem_foots.1 h2
        exact (hd.ins q hq k hkq).2
  · refine List.pairwise_append.2 ⟨hg.apart, h.apart, fun p hp q hq k hk hk' => ?_⟩
    rcases (h.ins q hq k hk').2 with h2 | h2
    · have := (hg.ins p hp k hk).1
      omega
    · exact far p hp k hk h2
theorem does_uses {X : Type} {val : X → Value} {good : X → Prop} {Δ' Γx : X → List Piece} {f : FuncId} {us caps : Array Value} {vs args : List Value} {xs : Array Operand} {tys : Array TypeId} (Γ1 Δ : List Piece)
    (hf : Callable P f) (hx : ev L x = some (.func (.func f) us caps)) (hargs : evs L xs.toList = some vs) (he : us.toList ++ vs ++ caps.toList = args) (hΓ : Γ = Γ1 ++ Δ)
    (hc : ∀ w, St S w0 w Γ → Calls P f args.toArray w (Uses Δ val good Δ' w)) (hΓx : ∀ z, Γ1 ++ Δ' z = Γx z) : Mades P n L S w0 Γ (.call ⟨.value x, xs, tys⟩) ty val good Γx :=
  does_call hf hx hargs he fun w hs => (hc w hs).mono fun e w' h => by
    obtain ⟨z, h1, h2, h3⟩ := h
    refine ⟨⟨z, h1⟩, h2, ?_⟩
    show St S w0 w' (Γx z)
    rw [← hΓx z]
    subst hΓ
    exact hs.used h3
/-- Old rows are far from pieces that are new. -/
theorem Sl.off {α : Type} {enc : α → List Value} {m : Nat} {a : Option Addr} {cap : Nat} {xs : List α} (h : Sl [] enc m w0 a cap xs) (hs : St [] w0 w Γ) (hsub : ∀ p ∈ Δ, p ∈ Γ) : Sl (foots Δ) enc m w a cap xs := by
  have h1 := h.at' hs
  refine ⟨h1.real, h1.le, h1.nil, h1.sm, fun hn hk => ?_, h1.lt, h1.cell⟩
  obtain ⟨q, hq, hkq⟩ := mem_foots.1 hk
  have := (hs.ins q (hsub q hq) _ hkq).2
  have h2 := h.lt hn
  simp at this
  omega

/-- A contract that makes pieces of which something is known. -/
def Makes {X : Type} (val : X → Value) (Δ : X → List Piece) (good : X → Prop) (w : World) : Ending → World → Prop := fun e w' => ∃ x, good x ∧ e = .returned (val x) ∧ Keep [] w w' ∧ New w w' (Δ x)
theorem Makes.mk {X : Type} {val : X → Value} {Δ : X → List Piece} {good : X → Prop} (z : X) (hg : good z) (hv : v = val z) (hΔ : (Δ z).Sublist Γ) (hs : St [] w0 w Γ) : Makes val Δ good w0 (.returned v) w := by
  have h2 := hs.sub hΔ
  exact ⟨z, hg, by rw [hv], hs.keep, h2.hold, fun p hp k hk => by have := h2.ins p hp k hk; refine ⟨?_, this.1⟩; simpa using this.2, h2.apart⟩
theorem does_makes {X : Type} {val : X → Value} {Δ Γx : X → List Piece} {good : X → Prop} {f : FuncId} {us caps : Array Value} {vs args : List Value} {xs : Array Operand} {tys : Array TypeId} (hf : Callable P f) (hx : ev L x = some (.func (.func f) us caps)) (hargs : evs L xs.toList = some vs)
    (he : us.toList ++ vs ++ caps.toList = args) (hc : ∀ w, St S w0 w Γ → Calls P f args.toArray w (Makes val Δ good w)) (hΓ : ∀ z, Cat Γ (Δ z) (Γx z)) : Mades P n L S w0 Γ (.call ⟨.value x, xs, tys⟩) ty val good Γx :=
  does_call hf hx hargs he fun w hs => (hc w hs).mono fun e w' h => by
    obtain ⟨z, h0, h1, h2, h3⟩ := h
    refine ⟨⟨z, h0⟩, h1, ?_⟩
    show St S w0 w' (Γx z)
    rw [← (hΓ z).eq]
    exact hs.new h2 h3
/-- A number of a map, known. -/
theorem pv_mapgetIv {g : Nat} {k r : Int} {kv : List (Int × Int)} (hr : (mget kv k).getD 0 = r) (ht : P.underlying t = some (.map T e)) (hT : P.underlying T = some (.int .i64)) (hz : (P.info? e).bind (·.zero) = some (.int .i64 0)) (hx : ev L x = some (.map (some g))) (hy : ev L y = some (.int .i64 k)) (hm : ∀ w, C w → MapAt fI w g kv) :
    Pure P n L C (.lookup t x y false) ty (.int .i64 r) := hr ▸ pv_mapgetI ht hT hz hx hy hm
/-- The iterator goes on: it is over, or one more entry comes. -/
theorem at_next {α : Type} {f : α → Value} {kv : List (Int × α)} {seen : List Nat} {Γf : Option Nat → List Piece} (h : Does P n L S w0 Γ (.next x false) ty (X := {q : Option Nat // NextOk kv.length seen q}) (fun q => nextV f kv q.1) (fun q => Γf q.1)) (hd : Nat.blt d n = true)
    (k0 : (∀ j, j < kv.length → j ∈ seen) → At P ops Q rest n ((d, .tuple #[.bool false]) :: L) S w0 (Γf none))
    (k1 : ∀ j z, kv[j]? = some z → j ∉ seen → At P ops Q rest n ((d, .tuple #[.bool true, .int .i64 z.1, f z.2]) :: L) S w0 (Γf (some j))) :
    At P ops Q (⟨some d, .next x false, ty, pos, after, none⟩ :: rest) n L S w0 Γ := at_does h hd fun q => by
  obtain ⟨q, hq⟩ := q
  cases q with
  | none => exact k0 hq
  | some j =>
    obtain ⟨h1, h2⟩ := hq
    have hz : kv[j]? = some kv[j] := List.getElem?_eq_getElem h1
    have h3 := k1 j kv[j] hz h2
    have e : nextV f kv (some j) = .tuple #[.bool true, .int .i64 kv[j].1, f kv[j].2] := by simp only [nextV]; rw [hz]
    show At P ops Q rest n ((d, nextV f kv (some j)) :: L) S w0 (Γf (some j))
    rw [e]
    exact h3
/-- A number of a map and whether it is there, known. -/
theorem pv_mapgetI2v {g : Nat} {k r : Int} {b : Bool} {kv : List (Int × Int)} (hr : (mget kv k).getD 0 = r ∧ (mget kv k).isSome = b) (ht : P.underlying t = some (.map T e)) (hT : P.underlying T = some (.int .i64)) (hz : (P.info? e).bind (·.zero) = some (.int .i64 0)) (hx : ev L x = some (.map (some g))) (hy : ev L y = some (.int .i64 k)) (hm : ∀ w, C w → MapAt fI w g kv) :
    Pure P n L C (.lookup t x y true) ty (.tuple #[.int .i64 r, .bool b]) := by
  rw [← hr.1, ← hr.2]
  exact pv_mapgetI2 ht hT hz hx hy hm
theorem mset_new {α : Type} {kv : List (Int × α)} {k : Int} {a : α} (h : mget kv k = none) : mset kv k a = kv ++ [(k, a)] := by
  induction kv with
  | nil => rfl
  | cons x r ih =>
    unfold mget at h
    unfold mset
    cases hx : x.1 == k
    · rw [hx] at h
      exact congrArg (x :: ·) (ih h)
    · rw [hx] at h; cases h
/-! ### 16. Rows of rows -/
/-- A row: where it lies, its room, its elements. -/
abbrev Hd (α : Type) := Option Addr × Nat × List α
def encH {α : Type} (h : Hd α) : List Value := [.slice h.1 h.2.2.length h.2.1]
theorem lenH {α : Type} (h : Hd α) : (encH h).length = 1 := rfl
theorem oneH {α : Type} (h : Hd α) : ∀ u ∈ encH h, u.oneCell' = true := by intro u hu; simp [encH] at hu; subst hu; rfl
section
variable {α : Type} {enc : α → List Value} {m : Nat} {hs1 : List (Hd α)}
def RowsP (enc : α → List Value) (m : Nat) (e : TypeId) (hs : List (Hd α)) : Piece :=
  ⟨hs.flatMap fun h => blk h.1, fun w => (∀ h ∈ hs, (RowP enc m e h.1 h.2.1 h.2.2).pred w) ∧ hs.Pairwise fun (p q : Hd α) => ∀ k ∈ blk p.1, k ∉ blk q.1, fun w w' hb hp =>
    ⟨fun h hh => (RowP enc m e h.1 h.2.1 h.2.2).loc w w' (fun k (hk : k ∈ blk h.1) => hb k (List.mem_flatMap.2 ⟨h, hh, hk⟩)) (hp.1 h hh), hp.2⟩⟩
theorem RowsP.none_pred (enc : α → List Value) (m : Nat) (e : TypeId) (k : Nat) (w : World) : (RowsP enc m e (List.replicate k (none, 0, []))).pred w := by
  refine ⟨fun h hh => ?_, ?_⟩
  · obtain ⟨_, rfl⟩ := List.mem_replicate.1 hh
    exact World.ownsRow_nil _ _ _ _
  · rw [List.pairwise_replicate]
    exact .inr (by simp [blk])
theorem St.addRows (hs : St S w0 w Γ) (enc : α → List Value) (m : Nat) (e : TypeId) (k : Nat) : St S w0 w (Γ ++ [RowsP enc m e (List.replicate k (none, 0, []))]) := by
  have hno : ∀ j, j ∉ (RowsP enc m e (List.replicate k ((none, 0, []) : Hd α))).foot := fun j hj => by
    obtain ⟨h, hh, hj⟩ := List.mem_flatMap.1 hj
    obtain ⟨_, rfl⟩ := List.mem_replicate.1 hh
    simp [blk] at hj
  refine ⟨hs.keep, fun p hp => ?_, fun p hp j hj => ?_, List.pairwise_append.2 ⟨hs.apart, by simp, fun p hp q hq j hj => ?_⟩⟩
  · rcases List.mem_append.1 hp with hp | hp
    · exact hs.hold p hp
    · simp only [List.mem_singleton] at hp
      subst hp
      exact RowsP.none_pred enc m e k w
  · rcases List.mem_append.1 hp with hp | hp
    · exact hs.ins p hp j hj
    · simp only [List.mem_singleton] at hp
      subst hp
      exact absurd hj (hno j)
  · simp only [List.mem_singleton] at hq
    subst hq
    exact hno j
theorem Cd.addRows {c : Code} (enc : α → List Value) (m : Nat) (e : TypeId) (k : Nat) (hΓ : Cat Γ [RowsP enc m e (List.replicate k (none, 0, []))] Γ') (h : Cd P c Q n L S w0 Γ') : Cd P c Q n L S w0 Γ := fun a w hf hs => h a w hf (hΓ.eq ▸ hs.addRows enc m e k)
/-- What one of the rows shows. -/
theorem St.rowsAt {i : Nat} (hm : ∀ z : α, (enc z).length = m) (hm0 : 0 < m) (hs : St S w0 w Γ) (hin : Nth Γ i (RowsP enc m e hs1)) {h : Hd α} (hh : h ∈ hs1) : Sl [] enc m w h.1 h.2.1 h.2.2 := by
  have hp := (hs.piece hin.get).1 h hh
  have h1 : St (blk h.1) w w [RowP enc m e h.1 h.2.1 h.2.2] := ⟨.refl _ _, by intro p hp'; simp only [List.mem_singleton] at hp'; subst hp'; exact hp, by
    intro p hp' k hk
    simp only [List.mem_singleton] at hp'
    subst hp'
    have hk' : k ∈ (RowsP enc m e hs1).foot := List.mem_flatMap.2 ⟨h, hh, hk⟩
    exact ⟨(hs.ins _ (List.mem_of_getElem? hin.get) k hk').1, .inr hk⟩, by simp⟩
  exact h1.rows hm hm0 .z

/-- One of the rows grows. -/
theorem does_appIn {i k : Nat} {a b : Option Addr} {cap cap2 : Nat} {zs ys : List α} {Γf : Option Addr → Nat → List Piece} {at_ : Array TypeId}
    (henc : (∀ z : α, (enc z).length = m) ∧ 0 < m ∧ ∀ z : α, ∀ u ∈ enc z, u.oneCell' = true) (ht : P.underlying t = some (.slice e)) (he : apB P e m = true) (hat : at_ = #[t, t])
    (hx : ev L x = some (.slice a zs.length cap)) (hy : ev L y = some (.slice b ys.length cap2)) (hin : Nth Γ i (RowsP enc m e hs1)) (hh : hs1[k]? = some (a, cap, zs)) (hsrc : ∀ w, St S w0 w Γ → Sl [] enc m w b cap2 ys) (hlen : zs.length + ys.length ≤ 100000000)
    (hnil : b = none → cap2 = 0) (hch : ∀ a' c', Chg Γ i (RowsP enc m e (hs1.set k (a', c', zs ++ ys))) (Γf a' c')) : Hands P n L S w0 Γ (.call ⟨.builtin .append, #[x, y], at_⟩) ty (zs ++ ys).length Γf := fun A w dst pos after g hf hs => by
  obtain ⟨ti, z0, h1, h2, h3, h4, h5⟩ := apB_spec he
  subst hat
  have hp := hs.piece hin.get
  have hkl : k < hs1.length := (List.getElem?_eq_some_iff.1 hh).1
  have hmem := List.mem_of_getElem? hh
  have hown : w.ownsRow 0 e m (.slice a zs.length cap) zs.length (zs.flatMap enc) := hp.1 _ hmem
  have hins := hs.ins _ (List.mem_of_getElem? hin.get)
  have hS := hsrc w hs
  have hmax : zs.length + ys.length ≤ maxLen := by simp [maxLen]; omega
  have hbb : (zs.length + ys.length) * ti.bytes ≤ 140737488355328 := Nat.le_trans (Nat.mul_le_mul hlen h4) (by omega)
  have haf : ∀ j ∈ blk a, j ∈ (RowsP enc m e hs1).foot := fun j hj => List.mem_flatMap.2 ⟨_, hmem, hj⟩
  obtain ⟨a', c', w', r1, r2, r3, r4⟩ := run_append_row (tyx := ty) henc.2.1 ht h1 h2 h3 rfl h5 hown
    (fun A hA => by subst hA; exact (hins A.block (haf _ (by simp [blk]))).1) (flatMap_len henc.1 ys) (hS.cells henc.1 henc.2.1)
    (fun u hu => by obtain ⟨z, _, hz⟩ := List.mem_flatMap.1 hu; exact henc.2.2 z u hz) hS.real hnil hmax hbb
  have hll : (zs ++ ys).length = zs.length + ys.length := List.length_append
  rw [← hll] at r1 r2
  have hblock : ∀ j, j < w.heap.size → j ∉ blk a → w'.heap[j]? = w.heap[j]? := fun j hj hn => r3.block j hj (fun e1 => by
    cases a with
    | none => simp [Value.ownBlock] at e1
    | some A0 => simp only [Value.ownBlock, Option.some.injEq] at e1; exact hn (by simp [blk, e1]))
  have hnew : ∀ j ∈ blk a', (j ∈ blk a ∨ w.heap.size ≤ j) ∧ j < w'.heap.size := fun j hj => by
    cases a' with
    | none => simp [blk] at hj
    | some A1 =>
      simp only [blk, List.mem_singleton] at hj
      subst hj
      obtain ⟨h6, h7⟩ := r4 A1 rfl
      refine ⟨?_, h7⟩
      rcases h6 with h6 | h6
      · subst h6; exact .inl (by simp [blk])
      · exact .inr h6
  left
  refine ⟨⟨(a', c'), ?_⟩, w', ?_, ?_⟩
  · rcases r2.2 with ⟨e1, e2⟩ | ⟨g, c1, cur, e1, _, _, e3, _⟩
    · simp only [Value.slice.injEq] at e1
      exact ⟨.inl e2, by show (zs ++ ys).length ≤ c'; omega⟩
    · simp only [Value.slice.injEq] at e1
      obtain ⟨rfl, _, rfl⟩ := e1
      exact ⟨.inr rfl, e3⟩
  · simp only [execOp, resolve]
    rw [show (#[x, y] : Array Operand).map A.eval = #[A.eval x, A.eval y] by simp, hf.at_ hx, hf.at_ hy]
    simp [invoke, builtin, r1]
  · show St S w0 w' (Γf a' c')
    rw [← (hch a' c').eq]
    have hpw := List.pairwise_iff_getElem.1 hp.2
    have hk1 : hs1[k] = (a, cap, zs) := (List.getElem?_eq_some_iff.1 hh).2
    have far : ∀ j (hj : j < hs1.length), j ≠ k → ∀ q ∈ blk hs1[j].1, q ∉ blk a := fun j hj hne q hq hq' => by
      rcases Nat.lt_or_gt_of_ne hne with hl | hg
      · have := hpw j k hj hkl hl q hq
        rw [hk1] at this
        exact this hq'
      · have := hpw k j hkl hj hg q (by rw [hk1]; exact hq')
        exact this hq
    have oldlt : ∀ j (hj : j < hs1.length), ∀ q ∈ blk hs1[j].1, q < w.heap.size := fun j hj q hq => (hins q (List.mem_flatMap.2 ⟨_, List.getElem_mem hj, hq⟩)).1
    refine hs.turn hin.get ⟨r3.os, r3.tape, r3.output, r3.size, fun j hj hn => hblock j hj (fun hx => hn (haf j hx))⟩ ⟨?_, ?_⟩ ?_
    · intro h hh'
      obtain ⟨j, hj, rfl⟩ := List.mem_iff_getElem.1 hh'
      simp only [List.length_set] at hj
      by_cases ejk : k = j
      · subst ejk
        simp only [List.getElem_set_self]
        show w'.ownsRow 0 e m _ _ _
        rw [List.flatMap_append]
        exact r2
      · rw [List.getElem_set_ne ejk]
        exact (RowP enc m e hs1[j].1 hs1[j].2.1 hs1[j].2.2).loc w w' (fun q hq => hblock q (oldlt j hj q hq) (far j hj (Ne.symm ejk) q hq)) (hp.1 _ (List.getElem_mem hj))
    · refine List.pairwise_iff_getElem.2 fun j1 j2 h1' h2' hlt q hq hq' => ?_
      simp only [List.length_set] at h1' h2'
      by_cases e1 : k = j1
      · subst e1
        rw [List.getElem_set_self] at hq
        rw [List.getElem_set_ne (by omega)] at hq'
        rcases (hnew q hq).1 with h6 | h6
        · exact far j2 h2' (by omega) q hq' h6
        · have := oldlt j2 h2' q hq'; omega
      · rw [List.getElem_set_ne e1] at hq
        by_cases e2 : k = j2
        · subst e2
          rw [List.getElem_set_self] at hq'
          rcases (hnew q hq').1 with h6 | h6
          · exact far j1 h1' (by omega) q hq h6
          · have := oldlt j1 h1' q hq; omega
        · rw [List.getElem_set_ne e2] at hq'
          exact hpw j1 j2 h1' h2' hlt q hq hq'
    · intro q hq
      obtain ⟨h, hh', hq⟩ := List.mem_flatMap.1 hq
      obtain ⟨j, hj, rfl⟩ := List.mem_iff_getElem.1 hh'
      simp only [List.length_set] at hj
      by_cases ejk : k = j
      · subst ejk
        rw [List.getElem_set_self] at hq
        have := hnew q hq
        refine ⟨?_, this.2⟩
        rcases this.1 with h6 | h6
        · exact .inl (haf q h6)
        · exact .inr h6
      · rw [List.getElem_set_ne ejk] at hq
        exact ⟨.inl (List.mem_flatMap.2 ⟨_, List.getElem_mem hj, hq⟩), Nat.lt_of_lt_of_le (oldlt j hj q hq) r3.size⟩
end

/-! ### 17. copy -/
section
variable {α : Type} {enc : α → List Value}
theorem set_same {β : Type} {l : List β} {k : Nat} {p : β} (h : l[k]? = some p) : l.set k p = l := by
  obtain ⟨h1, h2⟩ := List.getElem?_eq_some_iff.1 h
  rw [← h2]
  exact List.set_getElem_self h1
theorem flat1 (h1 : ∀ z, (enc z).length = 1) : ∀ (zs : List α) (k : Nat), (zs.take k).flatMap enc = (zs.flatMap enc).take k ∧ (zs.drop k).flatMap enc = (zs.flatMap enc).drop k
  | [], k => by simp
  | z :: zs, 0 => by simp
  | z :: zs, k + 1 => by
    have ih := flat1 h1 zs k
    have hz := h1 z
    obtain ⟨u, hu⟩ := List.length_eq_one_iff.1 hz
    simp [List.flatMap_cons, hu, ih.1, ih.2]
theorem does_copy {t' : TypeId} {k q : Nat} {a b d1 : Option Addr} {cap dLen dCap cap2 : Nat} {zs ys : List α} (h1 : ∀ z : α, (enc z).length = 1) (hone : ∀ z : α, ∀ u ∈ enc z, u.oneCell' = true) (ht : P.underlying t = some (.slice e)) (hsz : (P.info? e).map (·.size) = some 1)
    (hx : ev L x = some (.slice d1 dLen dCap)) (hy : ev L y = some (.slice b ys.length cap2)) (hin : Nth Γ k (RowP enc 1 e a cap zs)) (hd : 0 < min ys.length dLen → d1 = some ((adr a).add q)) (hfit : q + min ys.length dLen ≤ zs.length) (hsrc : ∀ w, St S w0 w Γ → Sl [] enc 1 w b cap2 ys)
    {N : Nat} (hN : min ys.length dLen = N) (hch : Chg Γ k (RowP enc 1 e a cap (zs.take q ++ ys.take N ++ zs.drop (q + N))) Γ') :
    Does P n L S w0 Γ (.call ⟨.builtin .copy, #[x, y], #[t, t']⟩) ty (fun _ : Unit => .int .i64 (N : Int)) (fun _ => Γ') := fun A w dst pos after g hf hs => by
  left
  have hown : w.ownsRow 0 e 1 (.slice a zs.length cap) zs.length (zs.flatMap enc) := hs.piece hin.get
  have hS := hsrc w hs
  by_cases h0 : N = 0
  · subst h0
    refine ⟨(), w, ?_, ?_⟩
    · have hr := run_copy_none (P := P) w t t' ty e d1 b dLen dCap ys.length cap2 ht hsz hN
      simp only [execOp, resolve]
      rw [show (#[x, y] : Array Operand).map A.eval = #[A.eval x, A.eval y] by simp, hf.at_ hx, hf.at_ hy]
      simp [invoke, builtin, hr, goInt]
    · show St S w0 w Γ'
      rw [← hch.eq]
      have e1 : zs.take q ++ ys.take 0 ++ zs.drop (q + 0) = zs := by simp
      rw [e1, set_same hin.get]
      exact hs
  · have hpos : 0 < N := Nat.pos_of_ne_zero h0
    rcases hown.2 with ⟨_, h2⟩ | ⟨g0, c0, cur, e1, _, hg, hle, hmx, hcs, htk⟩
    · omega
    · simp only [Value.slice.injEq] at e1
      obtain ⟨rfl, _, rfl⟩ := e1
      have hb := hS.real.get (by omega)
      have hd2 : d1 = some ⟨g0, q, none⟩ := by
        rw [hd (by omega)]
        show some (Addr.add ⟨g0, 0, none⟩ q) = _
        rw [Addr.add_lit, Nat.zero_add]
      have hcl : ((ys.take N).flatMap enc).length = N := by rw [flatMap_len h1, List.length_take]; omega
      have hcell : ∀ j v, ((ys.take N).flatMap enc)[j]? = some v → w.cell? ((adr b).add j) = some v := fun j v hj => by
        have := (hS.take N).cells h1 (by decide) j v hj
        exact this
      have hz1 : zs.length * 1 ≤ cur.size := by rw [hcs]; exact Nat.mul_le_mul_right _ hle
      have hr := run_copy_row (P := P) w t t' ty e g0 q dLen dCap (adr b) ys.length cap2 cur e ((ys.take N).flatMap enc) ht hsz hg (by rw [hcl]; exact hN.symm) hcell (by rw [hcl]; omega)
        (fun u hu => by obtain ⟨z, _, hz⟩ := List.mem_flatMap.1 hu; exact hone z u hz)
      rw [hcl] at hr
      refine ⟨(), w.setRow g0 (cur.toList.take q ++ (ys.take N).flatMap enc ++ cur.toList.drop (q + N)).toArray, ?_, ?_⟩
      · simp only [execOp, resolve]
        rw [show (#[x, y] : Array Operand).map A.eval = #[A.eval x, A.eval y] by simp, hf.at_ hx, hf.at_ hy, hd2, hb]
        rw [Sem.run_bind]
        simp only [Sem.run_pure, Result.andThen_ok, invoke, builtin, Sem.run_bind, hr, goInt]
      · show St S w0 _ Γ'
        rw [← hch.eq]
        have hlt : g0 < w.heap.size := (Array.getElem?_eq_some_iff.1 hg).1
        refine hs.turn hin.get ⟨rfl, rfl, rfl, by simp, fun j hj hn => setRow_other w g0 j _ (fun e2 => hn (by simp [RowP, blk, e2]))⟩ ?_ ?_
        · show World.ownsRow _ 0 e 1 _ _ _
          have hlen : (zs.take q ++ ys.take N ++ zs.drop (q + N)).length = zs.length := by simp; omega
          rw [hlen]
          refine ⟨by rw [flatMap_len h1, hlen], .inr ⟨g0, cap, _, rfl, Nat.zero_le _, setRow_heap w g0 cur _ e (0, 0) hg, hle, hmx, ?_, ?_⟩⟩
          · simp only [List.size_toArray, List.length_append, List.length_take, List.length_drop, hcl, Array.length_toList]
            omega
          · have f1 := flat1 h1 zs q
            have f2 := flat1 h1 zs (q + N)
            rw [List.flatMap_append, List.flatMap_append, f1.1, f2.2, ← htk]
            have hzl : zs.length ≤ cur.toList.length := by simpa using hz1
            generalize (ys.take N).flatMap enc = cs at hcl ⊢
            simp only [Nat.mul_one]
            rw [List.append_assoc, List.append_assoc, List.take_append, List.length_take]
            rw [show min q cur.toList.length = q by omega]
            rw [List.take_take, show min zs.length q = q by omega, List.take_take, show min q zs.length = q by omega]
            congr 1
            rw [List.take_append, List.take_of_length_le (by omega), hcl]
            congr 1
            rw [List.drop_take]
            congr 1
            omega
        · intro j hj
          simp only [RowP, blk, List.mem_singleton] at hj
          subst hj
          exact ⟨.inl (by simp [RowP, blk]), by simpa using hlt⟩
end

/-! ### 18. Other kinds of numbers -/
section
variable {k k' : IntKind} {p q r : Int} {t' : TypeId}
theorem pv_addk (hx : ev L x = some (.int k p)) (hy : ev L y = some (.int k q)) (hr : k.wrap (p + q) = r) : Pure P n L C (.binOp .add t x y t') ty (.int k r) := fun a w _ _ _ _ hf _ => by
  simp only [execOp]; rw [hf.at_ hx, hf.at_ hy, eqGuard_at_int, binOp_add, ← hr]; rfl
theorem pv_mulk (hx : ev L x = some (.int k p)) (hy : ev L y = some (.int k q)) (hr : k.wrap (p * q) = r) : Pure P n L C (.binOp .mul t x y t') ty (.int k r) := fun a w _ _ _ _ hf _ => by
  simp only [execOp]; rw [hf.at_ hx, hf.at_ hy, eqGuard_at_int, binOp_mul, ← hr]; rfl
theorem pv_andk (hx : ev L x = some (.int k p)) (hy : ev L y = some (.int k q)) (hr : k.wrap ((BitVec.ofInt k.bits p &&& BitVec.ofInt k.bits q).toNat : Nat) = r) : Pure P n L C (.binOp .and t x y t') ty (.int k r) := fun a w _ _ _ _ hf _ => by
  simp only [execOp]; rw [hf.at_ hx, hf.at_ hy, eqGuard_at_int, binOp_and, ← hr]; rfl
theorem pv_shrk (hx : ev L x = some (.int k p)) (hy : ev L y = some (.int k' q)) (h0 : ¬ q < 0) (hr : p.fdiv (2 ^ (min q.toNat k.bits)) = r) : Pure P n L C (.binOp .shr t x y t') ty (.int k r) := fun a w _ _ _ _ hf _ => by
  simp only [execOp]; rw [hf.at_ hx, hf.at_ hy, binOp_shr, ← hr]
  simp [Op.shift, h0, eqGuard]
end
end
end Go.Proofs.YtkejdfnpbkdllaaV
