/- Maps of our own, keyed by numbers: made, asked, written, ranged over. Closures that are handed on. No program is named here. -/
import Derived.Test.YtkejdfnpbkdllaaVI
import Derived.Laws.IdiomRangeMap
namespace Go.Proofs.YtkejdfnpbkdllaaV
open Go Go.RowKit
set_option linter.unusedVariables false
set_option linter.unusedSimpArgs false

/-! ### 13. Maps as lists -/
section
variable {α : Type}
def entsL (f : α → Value) : List (Int × α) → Nat → List MapEntry
  | [], _ => []
  | x :: r, i => { key := .int .i64 x.1, val := f x.2, born := i } :: entsL f r (i + 1)
def mget : List (Int × α) → Int → Option α
  | [], _ => none
  | x :: r, k => bif x.1 == k then some x.2 else mget r k
def mset : List (Int × α) → Int → α → List (Int × α)
  | [], k, a => [(k, a)]
  | x :: r, k, a => bif x.1 == k then (k, a) :: r else x :: mset r k a

theorem mget_mset (k k' : Int) (a : α) : ∀ kv : List (Int × α), mget (mset kv k a) k' = if k = k' then some a else mget kv k'
  | [] => by
    unfold mset mget mget
    by_cases h : k = k'
    · simp [h]
    · simp [h, beq_eq_false_iff_ne.2 h]
  | x :: r => by
    unfold mset
    by_cases h : x.1 = k
    · rw [beq_iff_eq.2 h, cond_true]
      unfold mget
      by_cases h2 : k = k'
      · simp [h2]
      · have h3 : x.1 ≠ k' := fun e => h2 (h.symm.trans e)
        simp [h2, beq_eq_false_iff_ne.2 h2, beq_eq_false_iff_ne.2 h3]
    · rw [beq_eq_false_iff_ne.2 h, cond_false]
      have ih := mget_mset k k' a r
      unfold mget
      rw [ih]
      by_cases h2 : x.1 = k'
      · have : k ≠ k' := fun e => h (h2.trans e.symm)
        simp [h2, this]
      · simp [beq_eq_false_iff_ne.2 h2]
theorem mset_keys (k : Int) (a : α) : ∀ kv : List (Int × α), (mset kv k a).map (·.1) = if (mget kv k).isSome then kv.map (·.1) else kv.map (·.1) ++ [k]
  | [] => by simp [mset, mget]
  | x :: r => by
    unfold mset mget
    by_cases h : x.1 = k
    · simp [h]
    · rw [beq_eq_false_iff_ne.2 h]
      have ih := mset_keys k a r
      simp only [cond_false, List.map_cons, ih]
      split <;> simp
theorem mget_isSome {kv : List (Int × α)} {k : Int} : (mget kv k).isSome = true ↔ k ∈ kv.map (·.1) := by
  induction kv with
  | nil => simp [mget]
  | cons x r ih =>
    unfold mget
    by_cases h : x.1 = k
    · simp [h]
    · rw [beq_eq_false_iff_ne.2 h]
      simp only [cond_false, ih, List.map_cons, List.mem_cons]
      constructor
      · intro h1; exact .inr h1
      · rintro (h1 | h1)
        · exact absurd h1.symm h
        · exact h1
theorem mset_nodup {k : Int} {a : α} {kv : List (Int × α)} (h : (kv.map (·.1)).Nodup) : ((mset kv k a).map (·.1)).Nodup := by
  rw [mset_keys]
  split
  · exact h
  · rename_i hn
    have : k ∉ kv.map (·.1) := fun e => hn (mget_isSome.2 e)
    rw [List.nodup_append]
    exact ⟨h, by simp, by intro x hx y hy; simp at hy; subst hy; intro e; subst e; exact this hx⟩
theorem mget_mem {kv : List (Int × α)} {k : Int} {a : α} (h : mget kv k = some a) : (k, a) ∈ kv := by
  induction kv with
  | nil => simp [mget] at h
  | cons x r ih =>
    unfold mget at h
    by_cases he : x.1 = k
    · rw [beq_iff_eq.2 he] at h
      simp only [cond_true, Option.some.injEq] at h
      subst h; subst he
      exact List.mem_cons_self
    · rw [beq_eq_false_iff_ne.2 he] at h
      exact List.mem_cons_of_mem _ (ih h)
theorem mget_of_mem {kv : List (Int × α)} {k : Int} {a : α} (hn : (kv.map (·.1)).Nodup) (h : (k, a) ∈ kv) : mget kv k = some a := by
  induction kv with
  | nil => cases h
  | cons x r ih =>
    rw [List.map_cons, List.nodup_cons] at hn
    unfold mget
    rcases List.mem_cons.1 h with rfl | h
    · simp
    · have : x.1 ≠ k := fun e => hn.1 (e ▸ List.mem_map.2 ⟨_, h, rfl⟩)
      rw [beq_eq_false_iff_ne.2 this]
      exact ih hn.2 h

theorem entsL_len (f : α → Value) : ∀ (kv : List (Int × α)) (i : Nat), (entsL f kv i).length = kv.length
  | [], _ => rfl
  | x :: r, i => by simp [entsL, entsL_len f r]
theorem entsL_get (f : α → Value) : ∀ (kv : List (Int × α)) (i k : Nat), (entsL f kv i)[k]? = (kv[k]?).map fun x => { key := .int .i64 x.1, val := f x.2, born := i + k }
  | [], i, k => by simp [entsL]
  | x :: r, i, 0 => by simp [entsL]
  | x :: r, i, k + 1 => by
    simp only [entsL, List.getElem?_cons_succ, entsL_get f r (i + 1) k]
    congr 1
    funext y
    rw [Nat.add_assoc, Nat.add_comm 1 k]
theorem entsL_append (f : α → Value) : ∀ (kv kv' : List (Int × α)) (i : Nat), entsL f (kv ++ kv') i = entsL f kv i ++ entsL f kv' (i + kv.length)
  | [], kv', i => by simp [entsL]
  | x :: r, kv', i => by
    simp only [List.cons_append, entsL, entsL_append f r kv' (i + 1), List.length_cons]
    rw [Nat.add_assoc, Nat.add_comm 1]

/-- The place of a key. -/
def mfind : List (Int × α) → Int → Nat → Option (Nat × α)
  | [], _, _ => none
  | x :: r, k, i => bif x.1 == k then some (i, x.2) else mfind r k (i + 1)
theorem mfind_get : ∀ (kv : List (Int × α)) (k : Int) (i : Nat), mget kv k = (mfind kv k i).map (·.2)
  | [], _, _ => rfl
  | x :: r, k, i => by
    unfold mget mfind
    cases x.1 == k
    · exact mfind_get r k (i + 1)
    · rfl
theorem mfind_now (f : α → Value) (k : Int) : ∀ (kv : List (Int × α)) (i j : Nat), Instr.findNow (.int .i64) (.int .i64 k) (entsL f kv j) i = some ((mfind kv k i).map fun x => (x.1, f x.2))
  | [], i, j => rfl
  | x :: r, i, j => by
    unfold entsL Instr.findNow mfind
    simp only [Instr.sameNow, if_true]
    by_cases h : x.1 = k
    · rw [h]; simp
    · have h1 : (x.1 == k) = false := beq_eq_false_iff_ne.2 h
      have h2 : (k == x.1) = false := beq_eq_false_iff_ne.2 (Ne.symm h)
      rw [h1, h2]
      exact mfind_now f k r (i + 1) (j + 1)
theorem mfind_none (f : α → Value) {k : Int} {a : α} : ∀ {kv : List (Int × α)} {i : Nat}, mfind kv k i = none → mset kv k a = kv ++ [(k, a)]
  | [], i, h => rfl
  | x :: r, i, h => by
    unfold mfind at h
    unfold mset
    cases hx : x.1 == k
    · rw [hx] at h
      exact congrArg (x :: ·) (mfind_none f h)
    · rw [hx] at h; cases h
theorem mfind_some (f : α → Value) {k : Int} {a b : α} : ∀ {kv : List (Int × α)} {i j q : Nat}, mfind kv k i = some (j, b) → i ≤ j ∧ ∃ x, (entsL f kv q)[j - i]? = some x ∧ x.key = .int .i64 k ∧ (entsL f kv q).modify (j - i) (fun e => { e with key := .int .i64 k, val := f a }) = entsL f (mset kv k a) q
  | [], i, j, q, h => by cases h
  | x :: r, i, j, q, h => by
    unfold mfind at h
    unfold mset entsL
    by_cases hx : x.1 = k
    · have hx' : (x.1 == k) = true := beq_iff_eq.2 hx
      rw [hx'] at h
      simp only [cond_true, Option.some.injEq, Prod.mk.injEq] at h
      obtain ⟨rfl, rfl⟩ := h
      refine ⟨Nat.le_refl _, _, by simp; rfl, by simp [hx], ?_⟩
      rw [hx']
      simp [entsL]
    · have hx' : (x.1 == k) = false := beq_eq_false_iff_ne.2 hx
      rw [hx'] at h
      obtain ⟨h1, y, h2, h3, h4⟩ := mfind_some f (q := q + 1) h
      refine ⟨by omega, y, ?_, h3, ?_⟩
      · rw [show j - i = (j - (i + 1)) + 1 by omega, List.getElem?_cons_succ]; exact h2
      · rw [show j - i = (j - (i + 1)) + 1 by omega, List.modify_succ_cons, h4, hx']
        simp [entsL]

def MapAt (f : α → Value) (w : World) (g : Nat) (kv : List (Int × α)) : Prop := w.heap[g]? = some (.map (entsL f kv 0).toArray kv.length)
def MapP (f : α → Value) (g : Nat) (kv : List (Int × α)) : Piece := ⟨[g], fun w => MapAt f w g kv, fun w w' h hp => (h g (by simp)).trans hp⟩
/-- An iterator over map m of n entries; 'seen': what it has handed out. -/
def IterP (g m n : Nat) (seen : List Nat) : Piece := ⟨[g], fun w => w.heap[g]? = some (.mapIter (some m) n seen.toArray n), fun w w' h hp => (h g (by simp)).trans hp⟩
end

section
variable {α : Type} {f : α → Value} {kv : List (Int × α)} {g : Nat}
variable {P : Program} {S : List Nat} {w0 w w' : World} {Γ Γ' : List Piece} {L L' : List (Nat × Value)} {n : Nat} {ops : Array Oper} {rest : List Oper} {Q : Exit → Act → World → Prop} {o : Oper} {d : Nat} {v : Value}
variable {ty : TypeId} {x y z c : Operand} {pos : String} {after : Array Edge} {op : Op} {C : World → Prop}

theorem MapAt.keep (h : MapAt f w g kv) (hS : g ∉ S) (k : Keep S w w') : MapAt f w' g kv := (k.block g (Array.getElem?_eq_some_iff.1 h).1 hS).trans h
theorem MapAt.old (h : MapAt f w0 g kv) (hS : g ∉ S) : ∀ w, St S w0 w Γ → MapAt f w g kv := fun w hs => h.keep hS hs.keep
theorem MapP.get {i : Nat} (hin : Nth Γ i (MapP f g kv)) : ∀ w, St S w0 w Γ → MapAt f w g kv := fun w hs => hs.piece hin.get

theorem run_lookup_at {t T e : TypeId} {k : Int} {zv : Value} (ht : P.underlying t = some (.map T e)) (hT : P.underlying T = some (.int .i64)) (hz : (P.info? e).bind (·.zero) = some zv) (hm : MapAt f w g kv) (b : Bool) :
    (Instr.lookup t (.map (some g)) (.int .i64 k) b).run P w = .ok (if b then .tuple #[((mget kv k).map f).getD zv, .bool (mget kv k).isSome] else ((mget kv k).map f).getD zv) w := by
  obtain ⟨i, h1, h2⟩ := Option.bind_eq_some_iff.1 hz
  have h3 : (zeroValue e).run P w = .ok zv w := by simp [zeroValue, typeInfo, h1, h2]
  have h4 := MapKept.run_getObj_map (P := P) hm
  have h5 : ∀ q, (Instr.checkKey q 10000 T (.int .i64 k)).run P w = .ok () w := fun q => MapKept.run_checkKey (n := 9999) (d := .int .i64) (k := .int .i64 k) hT (show MapKept.IsKey (.int .i64) (.int .i64 k) from rfl) q
  have h6 := MapKept.run_findKey (P := P) (w := w) hT (mfind_now f k kv 0 0)
  have h7 := mfind_get kv k 0
  simp only [Instr.lookup, Sem.run_bind, run_underlying ht, Result.andThen_ok, h4, h5, h6]
  rw [h7]
  cases hm2 : mfind kv k 0 with
  | none => simp [h3, h5, h6, hm2]
  | some q => simp [h3, h5, h6, hm2]

theorem pv_mapget {t T e : TypeId} {k : Int} (z0 : α) (ht : P.underlying t = some (.map T e)) (hT : P.underlying T = some (.int .i64)) (hz : (P.info? e).bind (·.zero) = some (f z0)) (hx : ev L x = some (.map (some g))) (hy : ev L y = some (.int .i64 k)) (hm : ∀ w, C w → MapAt f w g kv)
    (hv : f ((mget kv k).getD z0) = v) : Pure P n L C (.lookup t x y false) ty v := fun A w _ _ _ _ hf hc => by
  simp only [execOp]
  rw [hf.at_ hx, hf.at_ hy, Sem.run_bind, run_lookup_at ht hT hz (hm w hc) false]
  rw [← hv]
  cases mget kv k <;> rfl
theorem pv_mapget2 {t T e : TypeId} {k : Int} (z0 : α) (ht : P.underlying t = some (.map T e)) (hT : P.underlying T = some (.int .i64)) (hz : (P.info? e).bind (·.zero) = some (f z0)) (hx : ev L x = some (.map (some g))) (hy : ev L y = some (.int .i64 k)) (hm : ∀ w, C w → MapAt f w g kv)
    (hv : f ((mget kv k).getD z0) = v) : Pure P n L C (.lookup t x y true) ty (.tuple #[v, .bool (mget kv k).isSome]) := fun A w _ _ _ _ hf hc => by
  simp only [execOp]
  rw [hf.at_ hx, hf.at_ hy, Sem.run_bind, run_lookup_at ht hT hz (hm w hc) true]
  rw [← hv]
  cases mget kv k <;> rfl

theorem does_makeMap {t : TypeId} {Γg : Nat → List Piece} (f : α → Value) (hΓ : ∀ g, Cat Γ [MapP f g []] (Γg g)) : Does P n L S w0 Γ (.makeMap t none) ty (fun g : Nat => .map (some g)) Γg := fun A w dst pos after gd hf hs =>
  .inl ⟨w.heap.size, w.alloc (.map #[] 0), by
    simp only [execOp, Option.map_none, Instr.makeMap, newObj]
    rfl, by
    rw [← (hΓ w.heap.size).eq]
    refine hs.new (.of_below ((Below.refl _ _).alloc (Nat.le_refl _) _)) ⟨?_, ?_, by simp⟩
    · intro p hp
      simp only [List.mem_singleton] at hp
      subst hp
      exact (MapKept.heap_alloc w _).1
    · intro p hp k hk
      simp only [List.mem_singleton] at hp
      subst hp
      simp only [MapP, List.mem_singleton] at hk
      subst hk
      simp⟩

theorem run_mapput_at {t T e : TypeId} {k : Int} {a : α} (ht : P.underlying t = some (.map T e)) (hT : P.underlying T = some (.int .i64)) (hm : MapAt f w g kv) :
    (Instr.mapUpdate t (.map (some g)) (.int .i64 k) (f a)).run P w = .ok () { w with heap := w.heap.setIfInBounds g (.map (entsL f (mset kv k a) 0).toArray (mset kv k a).length) } := by
  have h4 := MapKept.run_getObj_map (P := P) hm
  have h5 : ∀ q, (Instr.checkKey q 10000 T (.int .i64 k)).run P w = .ok () w := fun q => MapKept.run_checkKey (n := 9999) (d := .int .i64) (k := .int .i64 k) hT (show MapKept.IsKey (.int .i64) (.int .i64 k) from rfl) q
  have h6 := MapKept.run_findKey (P := P) (w := w) hT (mfind_now f k kv 0 0)
  simp only [Instr.mapUpdate, Sem.run_bind, run_underlying ht, Result.andThen_ok, h4, h5, h6]
  cases hm2 : mfind kv k 0 with
  | none =>
    simp only [Option.map_none]
    rw [MapKept.run_setObj_map _ hm, mfind_none f hm2, entsL_append]
    simp [entsL]
  | some q =>
    obtain ⟨j, b⟩ := q
    obtain ⟨_, e1, h7, h8, h9⟩ := mfind_some f (a := a) (q := 0) hm2
    simp only [Nat.sub_zero] at h7 h9
    have h10 : ((entsL f kv 0).toArray[j]?).map (·.key) = some (.int .i64 k) := by simp [h7, h8]
    have h11 : (Instr.keyThatStays (.int .i64 k) (.int .i64 k)).run P w = .ok (.int .i64 k) w := by simp [Instr.keyThatStays, Instr.sameBits]
    have hlen : (mset kv k a).length = kv.length := by
      have := congrArg List.length h9
      rw [List.length_modify, entsL_len, entsL_len] at this
      exact this.symm
    simp only [Option.map_some, h10, Option.getD_some, Sem.run_bind, h11, Result.andThen_ok]
    rw [MapKept.run_setObj_map _ hm]
    have h12 : (entsL f kv 0).toArray.modify j (fun e => { e with key := .int .i64 k, val := f a }) = (entsL f (mset kv k a) 0).toArray := by
      apply Array.ext'
      rw [Array.toList_modify]
      exact h9
    rw [h12, hlen]

theorem turns_mapput {t T e : TypeId} {k : Int} {i : Nat} (a : α) (ht : P.underlying t = some (.map T e)) (hT : P.underlying T = some (.int .i64)) (hx : ev L x = some (.map (some g))) (hy : ev L y = some (.int .i64 k)) (hz : ev L z = some v) (hv : f a = v) (hin : Nth Γ i (MapP f g kv)) (hch : Chg Γ i (MapP f g (mset kv k a)) Γ') :
    Turns P n L S w0 Γ (.mapUpdate t x y z) ty Γ' := fun A w dst pos after gd hf hs => by
  have hm : MapAt f w g kv := hs.piece hin.get
  have hlt := (Array.getElem?_eq_some_iff.1 hm).1
  refine ⟨{ w with heap := w.heap.setIfInBounds g (.map (entsL f (mset kv k a) 0).toArray (mset kv k a).length) }, ?_, hch.eq ▸ hs.turn hin.get ?_ ?_ ?_⟩
  · simp only [execOp]
    rw [hf.at_ hx, hf.at_ hy, hf.at_ hz, ← hv, Sem.run_bind, run_mapput_at ht hT hm]
    rfl
  · refine ⟨rfl, rfl, rfl, by simp, fun j hj hn => ?_⟩
    simp only [MapP, List.mem_singleton] at hn
    exact (MapKept.heap_set hm).2 j hn
  · exact (MapKept.heap_set hm).1
  · intro j hj
    simp only [MapP, List.mem_singleton] at hj
    subst hj
    exact ⟨.inl (by simp [MapP]), by simpa using hlt⟩

theorem turns_mapputi {t T e : TypeId} {k : Int} {i : Nat} (a : α) (ht : P.underlying t = some (.map T e)) (hT : P.underlying T = some (.int .i64)) (hx : ev L x = some (.map (some g))) (hy : ev L y = some (.int .i64 k)) (hz : ev L z = some v) (hv : f a = v) (hin : Nth Γ i (MapP f g kv)) (hch : Chg Γ i (MapP f g (mset kv k a)) Γ') :
    Turns P n L S w0 Γ (.insert t x y z) ty Γ' := fun A w dst pos after gd hf hs => by
  have hm : MapAt f w g kv := hs.piece hin.get
  have hlt := (Array.getElem?_eq_some_iff.1 hm).1
  refine ⟨{ w with heap := w.heap.setIfInBounds g (.map (entsL f (mset kv k a) 0).toArray (mset kv k a).length) }, ?_, hch.eq ▸ hs.turn hin.get ?_ ?_ ?_⟩
  · simp only [execOp]
    rw [hf.at_ hx, hf.at_ hy, hf.at_ hz, ← hv, Sem.run_bind, run_mapput_at ht hT hm]
    rfl
  · refine ⟨rfl, rfl, rfl, by simp, fun j hj hn => ?_⟩
    simp only [MapP, List.mem_singleton] at hn
    exact (MapKept.heap_set hm).2 j hn
  · exact (MapKept.heap_set hm).1
  · intro j hj
    simp only [MapP, List.mem_singleton] at hj
    subst hj
    exact ⟨.inl (by simp [MapP]), by simpa using hlt⟩

/-! ### A field of a struct's value -/
/-- Field k of the struct type T is one cell and lies at offset o: a closed fact. -/
def fieldB1 (P : Program) (T k o : Nat) : Bool := match P.underlying T with
  | some (.struct fs) => (match fs[k]? with | some f => Nat.beq f.offset o && cellB P f.type | none => false)
  | _ => false
theorem pv_field {T k o : Nat} {cs : List Value} (hT : fieldB1 P T k o = true) (hx : ev L x = some (.agg cs.toArray)) (hv : Nth cs o v) : Pure P n L C (.field T x k) ty v := fun A w _ _ _ _ hf _ => by
  unfold fieldB1 at hT
  split at hT
  · rename_i fs h1
    split at hT
    · rename_i fd h2
      simp only [Bool.and_eq_true] at hT
      have h3 : fd.offset = o := by simpa using hT.1
      have h4 : (isAgg fd.type).run P w = .ok false w := by
        have hc := hT.2
        unfold cellB at hc
        unfold isAgg
        cases h5 : P.underlying fd.type with
        | none => rw [h5] at hc; cases hc
        | some de => rw [h5] at hc; cases de <;> simp_all [run_underlying h5]
      simp only [execOp]
      rw [hf.at_ hx]
      simp [Instr.field, run_underlying h1, h2, asAgg, part, h4, h3, hv.get]
    · cases hT
  · cases hT

/-! ### Ranging over a map -/
theorem does_range {t T e : TypeId} {Γg : Nat → List Piece} (ht : P.underlying t = some (.map T e)) (hx : ev L x = some (.map (some g))) (hm : ∀ w, St S w0 w Γ → MapAt f w g kv) (hΓ : ∀ q, Cat Γ [IterP q g kv.length []] (Γg q)) :
    Does P n L S w0 Γ (.range t x) ty (fun q : Nat => .pointer (some ⟨q, 0, none⟩)) Γg := fun A w dst pos after gd hf hs =>
  .inl ⟨w.heap.size, w.alloc (.mapIter (some g) kv.length #[] kv.length), by
    have h1 := MapKept.run_getObj_map (P := P) (hm w hs)
    simp only [execOp]
    rw [hf.at_ hx]
    simp only [Instr.range, Sem.run_bind, run_underlying ht, Result.andThen_ok, h1]
    rfl, by
    rw [← (hΓ w.heap.size).eq]
    refine hs.new (.of_below ((Below.refl _ _).alloc (Nat.le_refl _) _)) ⟨?_, ?_, by simp⟩
    · intro p hp
      simp only [List.mem_singleton] at hp
      subst hp
      exact (MapKept.heap_alloc w _).1
    · intro p hp k hk
      simp only [List.mem_singleton] at hp
      subst hp
      simp only [IterP, List.mem_singleton] at hk
      subst hk
      simp⟩

/-- What 'next' hands out: nothing, and then all has been seen; or one entry that has not. -/
def NextOk (len : Nat) (seen : List Nat) : Option Nat → Prop
  | none => ∀ j, j < len → j ∈ seen
  | some j => j < len ∧ j ∉ seen
def nextV (f : α → Value) (kv : List (Int × α)) : Option Nat → Value
  | none => .tuple #[.bool false]
  | some j => match kv[j]? with
    | some x => .tuple #[.bool true, .int .i64 x.1, f x.2]
    | none => .tuple #[.bool false]
def nextSeen (seen : List Nat) : Option Nat → List Nat
  | none => seen
  | some j => seen ++ [j]

theorem entsL_left (seen : List Nat) : ((entsL f kv 0).toArray.filter fun e => !seen.toArray.contains e.born) = ((entsL f kv 0).filter fun e => !seen.contains e.born).toArray := by simp

theorem run_next_at {r m : Nat} {seen : List Nat} (hi : w.heap[r]? = some (.mapIter (some m) kv.length seen.toArray kv.length)) (hm : MapAt f w m kv) :
    ∃ q : Option Nat, NextOk kv.length seen q ∧ ∃ w1, (Instr.next (.pointer (some ⟨r, 0, none⟩)) false ty).run P w = .ok (nextV f kv q) w1 ∧ Keep [r] w w1 ∧ w1.heap.size = w.heap.size ∧
      w1.heap[r]? = some (.mapIter (some m) kv.length (nextSeen seen q).toArray kv.length) := by
  have hborn : ∀ e ∈ entsL f kv 0, e.born < kv.length ∧ ∃ x, kv[e.born]? = some x ∧ e = { key := .int .i64 x.1, val := f x.2, born := e.born } := by
    intro e he
    obtain ⟨j, hj⟩ := List.getElem?_of_mem he
    rw [entsL_get] at hj
    obtain ⟨x, h1, h2⟩ := Option.map_eq_some_iff.1 hj
    rw [Nat.zero_add] at h2
    have hb : e.born = j := by rw [← h2]
    rw [hb]
    exact ⟨(List.getElem?_eq_some_iff.1 h1).1, x, h1, h2.symm⟩
  have hO := next_test_false seen.toArray (entsL f kv 0).toArray kv.length kv.length (fun e he => (hborn e (by simpa using he)).1) (Nat.le_refl _)
  have h1 : (getObj r).run P w = .ok (.mapIter (some m) kv.length seen.toArray kv.length) w := by simp only [getObj, Sem.run, hi]
  have h2 := MapKept.run_getObj_map (P := P) hm
  have hset : ∀ (w' : World) (o' : Obj), w'.heap = w.heap → (setObj r o').run P w' = .ok () { w' with heap := w'.heap.setIfInBounds r o' } := fun w' o' hw => by
    simp only [setObj, Sem.run, hw, hi]
  simp only [Instr.next, Sem.run_bind, h1, Result.andThen_ok, h2, hO, Bool.false_eq_true, if_false, entsL_left]
  have hL : ∀ e ∈ (entsL f kv 0).filter (fun e => !seen.contains e.born), e.born < kv.length ∧ e.born ∉ seen ∧ ∃ x, kv[e.born]? = some x ∧ e = { key := .int .i64 x.1, val := f x.2, born := e.born } := fun e he => by
    rw [List.mem_filter] at he
    have := hborn e he.1
    refine ⟨this.1, ?_, this.2⟩
    simpa using he.2
  have hnone : (entsL f kv 0).filter (fun e => !seen.contains e.born) = [] → ∀ j, j < kv.length → j ∈ seen := fun h j hj => by
    rw [List.filter_eq_nil_iff] at h
    have hg : (entsL f kv 0)[j]? = some { key := .int .i64 kv[j].1, val := f kv[j].2, born := 0 + j } := by rw [entsL_get, List.getElem?_eq_getElem hj]; rfl
    have := h _ (List.mem_of_getElem? hg)
    simpa using this
  generalize (entsL f kv 0).filter (fun e => !seen.contains e.born) = M at hL hnone ⊢
  have e1 : M.toArray.filter (fun x => decide (x.born < kv.length)) = M.toArray := Array.filter_eq_self.2 (fun x hx => by simpa using (hL x (by simpa using hx)).1)
  have e2 : M.toArray.filter (fun x => decide (x.born ≥ kv.length)) = #[] := by
    rw [Array.filter_eq_empty_iff]
    intro x hx
    have := (hL x (by simpa using hx)).1
    simp
    omega
  simp only [e1, e2, Array.append_empty]
  by_cases h0 : M = []
  · subst h0
    refine ⟨none, hnone rfl, w, ?_, .refl _ _, rfl, hi⟩
    simp [choose, Sem.run, Question.forced, nextV]
  · have hne : M.toArray.isEmpty = false := by cases M <;> simp_all
    have hpos : 0 < M.length := List.length_pos_iff.2 h0
    simp only [hne, Bool.false_eq_true, if_false, Array.empty_append, Array.size_map, List.size_toArray]
    have hch : ∃ (j : Nat) (w1 : World), j < M.length ∧ w1.heap = w.heap ∧ Keep [] w w1 ∧ (choose (Question.mapNext M.length)).run P w = .ok j w1 := by
      by_cases hf : M.length ≤ 1
      · exact ⟨0, w, by omega, rfl, .refl _ _, by simp [choose, Sem.run, Question.forced, hf]⟩
      · exact ⟨_, w.drew, Nat.mod_lt _ (by omega), rfl, .drew w, by
          simp only [choose, Sem.run, Question.forced, decide_eq_true_eq, hf, if_false, Question.cut]
          rfl⟩
    obtain ⟨j, w1, hj, hheap, hk1, hrun⟩ := hch
    obtain ⟨h3, h4, x, h5, h6⟩ := hL M[j] (List.getElem_mem hj)
    have hlt : r < w.heap.size := (Array.getElem?_eq_some_iff.1 hi).1
    refine ⟨some M[j].born, ⟨h3, h4⟩, { w1 with heap := w1.heap.setIfInBounds r (.mapIter (some m) kv.length (seen ++ [M[j].born]).toArray kv.length) }, ?_, ?_, by simp [hheap], ?_⟩
    · simp only [hrun, Result.andThen_ok, Array.getElem?_map, List.getElem?_toArray, List.getElem?_eq_getElem hj, Option.map_some, Sem.run_bind]
      rw [hset w1 _ hheap]
      simp only [Result.andThen_ok, nextV, h5, List.push_toArray]
      rw [h6]
      rfl
    · refine ⟨hk1.os, hk1.tape, hk1.output, by simp [hheap], fun k hk hn => ?_⟩
      simp only [List.mem_singleton] at hn
      show (w1.heap.setIfInBounds r _)[k]? = _
      rw [Array.getElem?_setIfInBounds_ne (by omega), hheap]
    · show (w1.heap.setIfInBounds r _)[r]? = _
      rw [Array.getElem?_setIfInBounds_self]
      simp [hheap, hlt, nextSeen]

theorem run_entry_at {r m j : Nat} {seen : List Nat} {x : Int × α} (hi : w.heap[r]? = some (.mapIter (some m) kv.length (seen ++ [j]).toArray kv.length)) (hm : MapAt f w m kv) (hj : kv[j]? = some x) :
    (Instr.entry (.pointer (some ⟨r, 0, none⟩))).run P w = .ok (.tuple #[.int .i64 x.1, f x.2]) w := by
  have h1 : (getObj r).run P w = .ok (.mapIter (some m) kv.length (seen ++ [j]).toArray kv.length) w := by simp only [getObj, Sem.run, hi]
  have h2 := MapKept.run_getObj_map (P := P) hm
  have hg : (entsL f kv 0)[j]? = some { key := .int .i64 x.1, val := f x.2, born := j } := by rw [entsL_get, hj, Nat.zero_add]; rfl
  have hn : ((entsL f kv 0).map (·.born)).Nodup := by
    have : ∀ (l : List (Int × α)) (i : Nat), (entsL f l i).map (·.born) = List.range' i l.length := by
      intro l
      induction l with
      | nil => intro i; rfl
      | cons y l ih => intro i; simp [entsL, ih, List.range'_succ]
    rw [this]
    exact List.nodup_range'
  have hf := find_born _ _ hn (List.mem_of_getElem? hg)
  simp only [Instr.entry, Sem.run_bind, h1, Result.andThen_ok, h2]
  simp [hf, h2]

/-- The iterator goes on. -/
theorem does_next {r m i k : Nat} {seen : List Nat} {Γf : Option Nat → List Piece} (hx : ev L x = some (.pointer (some ⟨r, 0, none⟩))) (hin : Nth Γ i (IterP r m kv.length seen)) (hm : ∀ w, St S w0 w Γ → MapAt f w m kv)
    (hch : ∀ q, Chg Γ i (IterP r m kv.length (nextSeen seen q)) (Γf q)) :
    Does P n L S w0 Γ (.next x false) ty (X := {q : Option Nat // NextOk kv.length seen q}) (fun q => nextV f kv q.1) (fun q => Γf q.1) := fun A w dst pos after gd hf hs => by
  obtain ⟨q, hq, w1, h1, h2, h3, h4⟩ := run_next_at (P := P) (ty := ty) (hs.piece hin.get) (hm w hs)
  left
  refine ⟨⟨q, hq⟩, w1, ?_, ?_⟩
  · simp only [execOp]
    rw [hf.at_ hx, Sem.run_bind, h1]
    rfl
  · show St S w0 w1 (Γf q)
    rw [← (hch q).eq]
    refine hs.turn hin.get h2 h4 ?_
    intro j hj
    simp only [IterP, List.mem_singleton] at hj
    subst hj
    exact ⟨.inl (by simp [IterP]), by rw [h3]; exact (hs.ins _ (List.mem_of_getElem? hin.get) j (by simp [IterP])).1⟩
theorem pv_entry {r m i j : Nat} {seen : List Nat} {z : Int × α} (hx : ev L x = some (.pointer (some ⟨r, 0, none⟩))) (hin : Nth Γ i (IterP r m kv.length (seen ++ [j]))) (hm : ∀ w, St S w0 w Γ → MapAt f w m kv) (hj : kv[j]? = some z) :
    Pure P n L (fun w => St S w0 w Γ) (.entry x) ty (.tuple #[.int .i64 z.1, f z.2]) := fun A w _ _ _ _ hf hs => by
  simp only [execOp]
  rw [hf.at_ hx, Sem.run_bind, run_entry_at (hs.piece hin.get) (hm w hs) hj]
  rfl
end
end Go.Proofs.YtkejdfnpbkdllaaV
