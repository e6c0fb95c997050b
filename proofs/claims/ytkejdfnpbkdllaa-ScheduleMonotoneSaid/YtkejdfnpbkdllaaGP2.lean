/- The program's order of a graph. -/
import Derived.Test.YtkejdfnpbkdllaaF25
import Derived.Test.YtkejdfnpbkdllaaGP
import Derived.Test.YtkejdfnpbkdllaaR25p
set_option linter.unusedVariables false
set_option linter.unusedSimpArgs false
set_option maxRecDepth 20000
namespace Go.Proofs.Ytkejdfnpbkdllaa
open Go Go.RowKit Go.Proofs.YtkejdfnpbkdllaaV
/-- How many links lead to i from nodes that are not yet there. -/
def cntW (ls : List Q4) (out : List Int) (i : Int) : Nat := ls.countP fun l => l.2.2.1 == i && !out.contains l.1
def cntF (ls : List Q4) (id i : Int) : Nat := ls.countP fun l => l.1 == id && l.2.2.1 == i
theorem cntW_le (ls : List Q4) (out : List Int) (i : Int) : cntW ls out i ≤ ls.length := List.countP_le_length
theorem cntF_le (ls : List Q4) (id i : Int) : cntF ls id i ≤ ls.length := List.countP_le_length
theorem cntW_step {ls : List Q4} {k : Nat} {z : Q4} (hz : ls[k]? = some z) (i : Int) : cntW (ls.take (k + 1)) [] i = cntW (ls.take k) [] i + if z.2.2.1 = i then 1 else 0 := by
  unfold cntW
  rw [List.take_add_one, hz, List.countP_append]
  congr 1
  by_cases h : z.2.2.1 = i <;> simp [h]
theorem cntF_step {ls : List Q4} {k : Nat} {z : Q4} (hz : ls[k]? = some z) (id i : Int) : cntF (ls.take (k + 1)) id i = cntF (ls.take k) id i + if z.1 = id ∧ z.2.2.1 = i then 1 else 0 := by
  unfold cntF
  rw [List.take_add_one, hz, List.countP_append]
  congr 1
  by_cases h : z.1 = id <;> by_cases h2 : z.2.2.1 = i <;> simp [h, h2]
theorem cntW_add (out : List Int) (id i : Int) (h : out.contains id = false) : ∀ ls : List Q4, cntW ls out i = cntW ls (out ++ [id]) i + cntF ls id i
  | [] => rfl
  | l :: ls => by
    have ih := cntW_add out id i h ls
    unfold cntW cntF at ih ⊢
    simp only [List.countP_cons]
    rw [ih]
    by_cases h1 : l.1 = id
    · have h3 : out.contains l.1 = false := by rw [h1]; exact h
      by_cases h2 : l.2.2.1 = i
      · simp [h1, h2] at h3 ⊢; simp [h3]; omega
      · simp [h1, h2]
    · have : (out ++ [id]).contains l.1 = out.contains l.1 := by simp [h1]
      rw [this]
      simp [h1]; omega
theorem cntF_sub {ls : List Q4} {k : Nat} (id i : Int) : cntF (ls.take k) id i ≤ cntF ls id i := (List.take_sublist k ls).countP_le
theorem free_cnt (ls : List Q4) (out : List Int) (i : Int) : freeB ls out i = (!out.contains i && ((cntW ls out i : Int) == 0)) := by
  unfold freeB
  congr 1
  rw [Bool.eq_iff_iff, beq_iff_eq, List.all_eq_true]
  unfold cntW
  constructor
  · intro h
    have : ls.countP (fun l => l.2.2.1 == i && !out.contains l.1) = 0 := by
      rw [List.countP_eq_zero]
      intro l hl
      have := h l hl
      by_cases h1 : l.2.2.1 = i
      · simpa [h1] using this
      · simp [h1]
    omega
  · intro h l hl
    have h0 : ls.countP (fun l => l.2.2.1 == i && !out.contains l.1) = 0 := by omega
    rw [List.countP_eq_zero] at h0
    have := h0 l hl
    by_cases h1 : l.2.2.1 = i
    · simpa [h1] using this
    · simp [h1]
theorem fIx_next (ls : List Q4) (out : List Int) : ∀ (ns : List Q4) (k : Int), 0 ≤ k → (∀ z ∈ ns, 1 ≤ z.1) → (fIx (fun z : Q4 => freeB ls out z.1) ns k < 0 ∧ nextN ls out ns = 0) ∨ (0 ≤ fIx (fun z : Q4 => freeB ls out z.1) ns k ∧ ∃ z, ns[(fIx (fun z : Q4 => freeB ls out z.1) ns k - k).toNat]? = some z ∧ z.1 = nextN ls out ns ∧ 1 ≤ z.1)
  | [], k, hk, _ => .inl ⟨by simp [fIx], rfl⟩
  | z :: zs, k, hk, hp => by
    unfold fIx nextN
    cases hf : freeB ls out z.1
    · simp only [cond_false]
      rcases fIx_next ls out zs (k + 1) (by omega) (fun y hy => hp y (by simp [hy])) with h | ⟨h1, y, h2, h3⟩
      · exact .inl h
      · refine .inr ⟨h1, y, ?_, h3⟩
        have hr := fIx_range (p := fun z : Q4 => freeB ls out z.1) zs (k + 1)
        have e : (fIx (fun z : Q4 => freeB ls out z.1) zs (k + 1) - k).toNat = (fIx (fun z : Q4 => freeB ls out z.1) zs (k + 1) - (k + 1)).toNat + 1 := by omega
        rw [e, List.getElem?_cons_succ]
        exact h2
    · simp only [cond_true]
      exact .inr ⟨hk, z, by simp, rfl, hp z (by simp)⟩
theorem wt_sub {ls : List Q4} {wt : List (Int × Int)} {A : Int → Int} {j : Nat} {x : Q4} {id : Int} (hq : ∀ i, (mget wt i).getD 0 = A i - (cntF (ls.take j) id i : Int)) (hx : ls[j]? = some x) (h : x.1 = id) :
    ∀ i, (mget (mset wt x.2.2.1 ((mget wt x.2.2.1).getD 0 - 1)) i).getD 0 = A i - (cntF (ls.take (j + 1)) id i : Int) := fun i => by
  rw [mget_mset, cntF_step hx]
  by_cases e : x.2.2.1 = i
  · subst e; simp [h, hq]; omega
  · simp [e, hq]
theorem wt_same {ls : List Q4} {wt : List (Int × Int)} {A : Int → Int} {j : Nat} {x : Q4} {id : Int} (hq : ∀ i, (mget wt i).getD 0 = A i - (cntF (ls.take j) id i : Int)) (hx : ls[j]? = some x) (h : ¬ x.1 = id) :
    ∀ i, (mget wt i).getD 0 = A i - (cntF (ls.take (j + 1)) id i : Int) := fun i => by
  rw [hq, cntF_step hx]
  simp [h]
/-- What the rounds keep. -/
structure Rounds (ns ls : List Q4) (k : Nat) (out : List Int) (dn : List (Int × Bool)) (wt : List (Int × Int)) : Prop where
  kl : k ≤ ns.length
  len : out.length = k
  good : Good ns ls out
  en : Enough ns ls out
  dn : ∀ i, (mget dn i).getD false = out.contains i
  wt : ∀ i, (mget wt i).getD 0 = (cntW ls out i : Int)
theorem contains_snoc (out : List Int) (a i : Int) : (out ++ [a]).contains i = if a = i then true else out.contains i := by
  by_cases h : a = i
  · simp [h]
  · simp [h, Ne.symm h]
theorem Rounds.next {ns ls : List Q4} {k : Nat} {out : List Int} {dn : List (Int × Bool)} {wt wt' : List (Int × Int)} {z : Q4} (hN : (ids ns).Nodup) (h : Rounds ns ls k out dn wt) (hk : k < ns.length) (hz : z.1 = nextN ls out ns) (h1 : 1 ≤ z.1)
    (hw : ∀ i, (mget wt' i).getD 0 = (cntW ls out i : Int) - (cntF ls z.1 i : Int)) : Rounds ns ls (k + 1) (out ++ [z.1]) (mset dn z.1 true) wt' := by
  have h0 : nextN ls out ns ≠ 0 := by rw [← hz]; omega
  have hg := good_step hN h.good h0
  have he := (enough_step h.en h0).1
  rw [← hz] at hg he
  have hnot : out.contains z.1 = false := by
    have hnd := hg.nd
    rw [List.nodup_append] at hnd
    rw [← Bool.not_eq_true]
    intro hc
    have hm : z.1 ∈ out := by simpa using hc
    exact hnd.2.2 z.1 hm z.1 (by simp) rfl
  refine ⟨by omega, by rw [List.length_append]; simp [h.len], hg, he, fun i => ?_, fun i => ?_⟩
  · rw [mget_mset, contains_snoc]
    split
    · rfl
    · exact h.dn i
  · rw [hw, cntW_add out z.1 i hnot ls]
    omega
theorem Rounds.stop {ns ls : List Q4} {k : Nat} {out : List Int} {dn : List (Int × Bool)} {wt : List (Int × Int)} (h : Rounds ns ls k out dn wt) (hs : nextN ls out ns = 0 ∨ ns.length ≤ k) : orderS ns ls = out := by
  rcases hs with hs | hs
  · exact enough_stop h.en hs
  · refine enough_stop h.en (Classical.byContradiction fun h0 => ?_)
    have := (enough_step h.en h0).2
    have hc := h.good.cnt
    have := h.len
    omega

theorem index_nodes (c : Option Addr) (cc : Nat) (ns : List Q4) (p : Q4 → Bool) (fid : Nat) (us caps : Array Value) (w : World) (hx : Sl [] enc4 4 w c cc ns) (hcal : Callable Try.prog fid) (hcall : ∀ z ∈ ns, ∀ w', Keep [] w w' → Calls Try.prog fid (us.toList ++ [(.agg (enc4 z).toArray : Value)] ++ caps.toList).toArray w' (Val (.bool (p z)) w')) : Calls Try.prog 87 [.slice c ns.length cc, .func (.func fid) us caps].toArray w (Val (.int .i64 (fIx p ns 0)) w) := by
  refine calls_body (n := 19) Try.func87 rfl rfl rfl (St.init _ []) ?_
  refine cd_seq ?_
  refine cd_region ?_
  refine at_pure (pv_assign rfl) rfl ?_
  refine at_nil ?_
  refine ex_go ?_
  refine cd_seq ?_
  refine cd_seq ?_
  refine cd_region ?_
  refine at_pure (pv_move rfl) rfl ?_
  refine at_pure (pv_len Try.underlying25 rfl) rfl ?_
  refine at_pure (pv_move rfl) rfl ?_
  refine at_nil ?_
  refine ex_go ?_
  refine cd_block ?_
  refine cd_loop (σ := Nat) (fun s => [(0, .slice c ns.length cc), (1, .func (.func fid) us caps), (7, .int .i64 ns.length), (8, .int .i64 (s : Int))]) (fun s => []) (fun s => s ≤ ns.length ∧ fIx p ns 0 = fIx p (ns.drop s) (s : Int)) (fun s => ns.length - s) 0 ⟨Nat.zero_le _, rfl⟩ ⟨rfl, rfl, rfl, rfl, trivial⟩ (by repeat first | exact sLn _ | apply sLc | apply sLd) ?_
  rintro k ⟨hk, hq⟩
  refine cd_seq ?_
  refine cd_region ?_
  refine at_pure (pv_lss rfl rfl) rfl ?_
  refine at_nil ?_
  refine ex_go ?_
  refine cd_seq ?_
  refine cd_if rfl (fun hlt => ?_) (fun hlt => ?_)
  · skip
    refine cd_skip ?_
    refine ex_go ?_
    refine cd_seq ?_
    refine cd_block ?_
    refine cd_seq ?_
    refine cd_region ?_
    refine at_pure (pv_move rfl) rfl ?_
    refine at_pure (pv_assign rfl) rfl ?_
    refine at_nil ?_
    refine ex_go ?_
    refine cd_seq ?_
    have hkl : k < ns.length := by simpa using hlt
    obtain ⟨z, hz⟩ := get_of hkl
    have hsm := hx.sm
    refine cd_region ?_
    refine at_pure (pv_move rfl) rfl ?_
    refine at_pure (pv_move rfl) rfl ?_
    refine at_pure (pv_move rfl) rfl ?_
    refine at_pure (pv_ix Try.underlying25 cz_70 rfl rfl (by first | omega | (simp only [decide_eq_true_eq, decide_eq_false_iff_not] at *; omega)) hx.real (k := k) (by omega)) rfl ?_
    refine at_pure (pv_elems ag_70 rfl (hx.gets hz) rfl) rfl ?_
    refine at_does (does_val (v := .bool (p z)) hcal rfl rfl rfl (fun w hs => hcall z (List.mem_of_getElem? hz) w hs.keep)) rfl (fun _ => ?_)
    refine at_nil ?_
    refine ex_go ?_
    refine cd_if rfl (fun hf => ?_) (fun hf => ?_)
    · skip
      refine cd_seq ?_
      refine cd_region ?_
      refine at_pure (pv_move rfl) rfl ?_
      refine at_pure (pv_assign rfl) rfl ?_
      refine at_nil ?_
      refine ex_go ?_
      refine cd_ret ?_
      refine ex_in_ret (ex_then_ret (ex_then_ret (ex_in_ret (ex_then_ret ?_))))
      exact end_ret1 rfl rfl (fun w hs => ⟨by clear hs; refine congrArg (fun b => Ending.returned (.int .i64 b)) ?_; first | exact (fIx_hit hq hz hf).symm | exact (fIx_end hq (by simp at hlt; omega)).symm, hs.keep⟩)
    · skip
      refine cd_skip ?_
      refine ex_in_normal (ex_go ?_)
      refine cd_region ?_
      refine at_pure (by first | exact pv_add_n rfl rfl (by unfold In64; omega) | exact pv_add rfl rfl) rfl ?_
      refine at_pure (pv_move rfl) rfl ?_
      refine at_nil ?_
      exact ex_meet (k + 1) ⟨⟨by omega, fIx_step hq hz hf⟩, by omega⟩ ⟨rfl, rfl, rfl, rfl, trivial⟩ (by repeat first | exact sLn _ | apply sLc | apply sLd)
  · skip
    refine cd_exit ?_
    refine ex_then_exit (ex_then_exit (ex_in (ex_go ?_)))
    refine cd_seq ?_
    refine cd_region ?_
    refine at_pure (pv_assign rfl) rfl ?_
    refine at_nil ?_
    refine ex_go ?_
    refine cd_ret ?_
    exact end_ret1 rfl rfl (fun w hs => ⟨by clear hs; refine congrArg (fun b => Ending.returned (.int .i64 b)) ?_; first | exact (fIx_hit hq hz hf).symm | exact (fIx_end hq (by simp at hlt; omega)).symm, hs.keep⟩)

theorem index_ints (c : Option Addr) (cc : Nat) (xs : List Int) (p : Int → Bool) (fid : Nat) (us caps : Array Value) (w : World) (hx : Sl [] enc1 1 w c cc xs) (hcal : Callable Try.prog fid) (hcall : ∀ z ∈ xs, ∀ w', Keep [] w w' → Calls Try.prog fid (us.toList ++ [(.int .i64 z : Value)] ++ caps.toList).toArray w' (Val (.bool (p z)) w')) : Calls Try.prog 72 [.slice c xs.length cc, .func (.func fid) us caps].toArray w (Val (.int .i64 (fIx p xs 0)) w) := by
  refine calls_body (n := 19) Try.func72 rfl rfl rfl (St.init _ []) ?_
  refine cd_seq ?_
  refine cd_region ?_
  refine at_pure (pv_assign rfl) rfl ?_
  refine at_nil ?_
  refine ex_go ?_
  refine cd_seq ?_
  refine cd_seq ?_
  refine cd_region ?_
  refine at_pure (pv_move rfl) rfl ?_
  refine at_pure (pv_len Try.underlying22 rfl) rfl ?_
  refine at_pure (pv_move rfl) rfl ?_
  refine at_nil ?_
  refine ex_go ?_
  refine cd_block ?_
  refine cd_loop (σ := Nat) (fun s => [(0, .slice c xs.length cc), (1, .func (.func fid) us caps), (7, .int .i64 xs.length), (8, .int .i64 (s : Int))]) (fun s => []) (fun s => s ≤ xs.length ∧ fIx p xs 0 = fIx p (xs.drop s) (s : Int)) (fun s => xs.length - s) 0 ⟨Nat.zero_le _, rfl⟩ ⟨rfl, rfl, rfl, rfl, trivial⟩ (by repeat first | exact sLn _ | apply sLc | apply sLd) ?_
  rintro k ⟨hk, hq⟩
  refine cd_seq ?_
  refine cd_region ?_
  refine at_pure (pv_lss rfl rfl) rfl ?_
  refine at_nil ?_
  refine ex_go ?_
  refine cd_seq ?_
  refine cd_if rfl (fun hlt => ?_) (fun hlt => ?_)
  · skip
    refine cd_skip ?_
    refine ex_go ?_
    refine cd_seq ?_
    refine cd_block ?_
    refine cd_seq ?_
    refine cd_region ?_
    refine at_pure (pv_move rfl) rfl ?_
    refine at_pure (pv_assign rfl) rfl ?_
    refine at_nil ?_
    refine ex_go ?_
    refine cd_seq ?_
    have hkl : k < xs.length := by simpa using hlt
    obtain ⟨z, hz⟩ := get_of hkl
    have hsm := hx.sm
    refine cd_region ?_
    refine at_pure (pv_move rfl) rfl ?_
    refine at_pure (pv_move rfl) rfl ?_
    refine at_pure (pv_move rfl) rfl ?_
    refine at_pure (pv_ix Try.underlying22 cz_3 rfl rfl (by first | omega | (simp only [decide_eq_true_eq, decide_eq_false_iff_not] at *; omega)) hx.real (k := k) (by omega)) rfl ?_
    refine at_pure (pv_elem0 ld_3 rfl (hx.get hz .z)) rfl ?_
    refine at_does (does_val (v := .bool (p z)) hcal rfl rfl rfl (fun w hs => hcall z (List.mem_of_getElem? hz) w hs.keep)) rfl (fun _ => ?_)
    refine at_nil ?_
    refine ex_go ?_
    refine cd_if rfl (fun hf => ?_) (fun hf => ?_)
    · skip
      refine cd_seq ?_
      refine cd_region ?_
      refine at_pure (pv_move rfl) rfl ?_
      refine at_pure (pv_assign rfl) rfl ?_
      refine at_nil ?_
      refine ex_go ?_
      refine cd_ret ?_
      refine ex_in_ret (ex_then_ret (ex_then_ret (ex_in_ret (ex_then_ret ?_))))
      exact end_ret1 rfl rfl (fun w hs => ⟨by clear hs; refine congrArg (fun b => Ending.returned (.int .i64 b)) ?_; first | exact (fIx_hit hq hz hf).symm | exact (fIx_end hq (by simp at hlt; omega)).symm, hs.keep⟩)
    · skip
      refine cd_skip ?_
      refine ex_in_normal (ex_go ?_)
      refine cd_region ?_
      refine at_pure (by first | exact pv_add_n rfl rfl (by unfold In64; omega) | exact pv_add rfl rfl) rfl ?_
      refine at_pure (pv_move rfl) rfl ?_
      refine at_nil ?_
      exact ex_meet (k + 1) ⟨⟨by omega, fIx_step hq hz hf⟩, by omega⟩ ⟨rfl, rfl, rfl, rfl, trivial⟩ (by repeat first | exact sLn _ | apply sLc | apply sLd)
  · skip
    refine cd_exit ?_
    refine ex_then_exit (ex_then_exit (ex_in (ex_go ?_)))
    refine cd_seq ?_
    refine cd_region ?_
    refine at_pure (pv_assign rfl) rfl ?_
    refine at_nil ?_
    refine ex_go ?_
    refine cd_ret ?_
    exact end_ret1 rfl rfl (fun w hs => ⟨by clear hs; refine congrArg (fun b => Ending.returned (.int .i64 b)) ?_; first | exact (fIx_hit hq hz hf).symm | exact (fIx_end hq (by simp at hlt; omega)).symm, hs.keep⟩)

theorem fIx_any {α : Type} (p : α → Bool) : ∀ (xs : List α) (k : Int), 0 ≤ k → decide (0 ≤ fIx p xs k) = xs.any p
  | [], k, hk => by simp [fIx]
  | x :: xs, k, hk => by
    unfold fIx
    rw [List.any_cons]
    cases hp : p x
    · simp only [cond_false, Bool.false_or]
      exact fIx_any p xs (k + 1) (by omega)
    · simp [hk]
theorem contains_ints (c : Option Addr) (cc : Nat) (xs : List Int) (p : Int → Bool) (fid : Nat) (us caps : Array Value) (w : World) (hx : Sl [] enc1 1 w c cc xs) (hcal : Callable Try.prog fid) (hcall : ∀ z ∈ xs, ∀ w', Keep [] w w' → Calls Try.prog fid (us.toList ++ [(.int .i64 z : Value)] ++ caps.toList).toArray w' (Val (.bool (p z)) w')) : Calls Try.prog 55 [.slice c xs.length cc, .func (.func fid) us caps].toArray w (Val (.bool (xs.any p)) w) := by
  refine calls_body (n := 9) Try.func55 rfl rfl rfl (St.init _ []) ?_
  refine cd_seq ?_
  refine cd_region ?_
  refine at_pure (pv_assign rfl) rfl ?_
  refine at_nil ?_
  refine ex_go ?_
  refine cd_seq ?_
  refine cd_region ?_
  refine at_pure (pv_move rfl) rfl ?_
  refine at_pure (pv_move rfl) rfl ?_
  refine at_does (does_val cal72 rfl rfl rfl (fun w hs => index_ints c cc xs p fid us caps w (hx.at' hs) hcal (fun z hz w' k => hcall z hz w' (hs.keep.trans k)))) rfl (fun _ => ?_)
  refine at_pure (pv_geq rfl rfl) rfl ?_
  refine at_pure (pv_assign rfl) rfl ?_
  refine at_nil ?_
  refine ex_go ?_
  refine cd_ret ?_
  exact end_ret1 rfl rfl (fun w hs => ⟨by clear hs; refine congrArg (fun b => Ending.returned (.bool b)) ?_; exact fIx_any p xs 0 (Int.le_refl _), hs.keep⟩)

theorem order1_go (z : Q4) (g5 g3 m4 m2 : Nat) (dn : List (Int × Bool)) (wt : List (Int × Int)) (w : World) (hb5 : w.cell? ⟨g5, 0, none⟩ = some (.map (some m4))) (hb3 : w.cell? ⟨g3, 0, none⟩ = some (.map (some m2))) (hm4 : MapAt fB w m4 dn) (hm2 : MapAt fI w m2 wt) : Calls Try.prog 88 [.agg (enc4 z).toArray, Value.pointer (some ⟨g5, 0, none⟩), Value.pointer (some ⟨g3, 0, none⟩)].toArray w (Val (.bool (!(mget dn z.1).getD false && ((mget wt z.1).getD 0 == 0))) w) := by
  refine calls_body (n := 17) Try.func88 rfl rfl rfl (St.init _ []) ?_
  refine cd_seq ?_
  refine cd_region ?_
  refine at_does (does_box rfl .agg (fun _ => .nil)) rfl (fun g1 => ?_)
  refine at_pure (pv_assign rfl) rfl ?_
  refine at_nil ?_
  refine ex_go ?_
  refine cd_seq ?_
  refine cd_region ?_
  refine at_pure (pv_load ld_129 rfl (old_cell hb5 (by simp))) rfl ?_
  refine at_pure (pv_field0 fa_70_0 rfl (r := 0) rfl) rfl ?_
  refine at_pure (by exact pv_load ld_3 rfl (box_cell .z .z)) rfl ?_
  refine at_pure (pv_mapgetB Try.underlying129 Try.underlying3 ze_4 rfl rfl (MapAt.old hm4 (by simp))) rfl ?_
  refine at_pure (pv_not rfl) rfl ?_
  refine at_pure (pv_move rfl) rfl ?_
  refine at_split 10 rfl (fun hb1 => ?_) (fun hb1 => ?_)
  · skip
    refine at_pure_g rfl rfl hb1 (pv_load ld_88 rfl (old_cell hb3 (by simp))) rfl ?_
    refine at_pure_g rfl rfl hb1 (pv_field0 fa_70_0 rfl (r := 0) rfl) rfl ?_
    refine at_pure_g rfl rfl hb1 (by exact pv_load ld_3 rfl (box_cell .z .z)) rfl ?_
    refine at_pure_g rfl rfl hb1 (pv_mapgetI Try.underlying88 Try.underlying3 ze_3 rfl rfl (MapAt.old hm2 (by simp))) rfl ?_
    refine at_pure_g rfl rfl hb1 (pv_eql rfl rfl) rfl ?_
    refine at_pure (pv_pick_t rfl hb1 rfl) rfl ?_
    refine at_pure (pv_assign rfl) rfl ?_
    refine at_nil ?_
    refine ex_go ?_
    refine cd_ret ?_
    exact end_ret1 rfl rfl (fun w hs => ⟨by clear hs; refine congrArg (fun b => Ending.returned (.bool b)) ?_; simp only [Bool.and_true, Bool.true_and, Bool.and_false, Bool.false_and, Bool.not_true, Bool.not_false, *], hs.keep⟩)
  · skip
    refine at_skip rfl rfl hb1 rfl ?_
    refine at_skip rfl rfl hb1 rfl ?_
    refine at_skip rfl rfl hb1 rfl ?_
    refine at_skip rfl rfl hb1 rfl ?_
    refine at_skip rfl rfl hb1 rfl ?_
    refine at_pure (pv_pick_f rfl hb1 rfl) rfl ?_
    refine at_pure (pv_assign rfl) rfl ?_
    refine at_nil ?_
    refine ex_go ?_
    refine cd_ret ?_
    exact end_ret1 rfl rfl (fun w hs => ⟨by clear hs; refine congrArg (fun b => Ending.returned (.bool b)) ?_; simp only [Bool.and_true, Bool.true_and, Bool.and_false, Bool.false_and, Bool.not_true, Bool.not_false, *], hs.keep⟩)

set_option maxRecDepth 10000 in
set_option maxHeartbeats 2000000 in
theorem order_go (a b : Option Addr) (ca cb : Nat) (ns ls : List Q4) (w : World) (hn : Sl [] enc4 4 w a ca ns) (hl : Sl [] enc4 4 w b cb ls) (hsz : ns.length ≤ 64) (hls : ls.length ≤ 256) (hpos : ∀ z ∈ ns, 1 ≤ z.1) (hN : (ids ns).Nodup) : Calls Try.prog 81 [.agg #[.slice a ns.length ca, .slice b ls.length cb]].toArray w (Gives (fun z : Option Addr × Nat => .slice z.1 (orderS ns ls).length z.2) (fun z => [RowP enc1 1 3 z.1 z.2 (orderS ns ls)]) w) := by
  refine calls_body (n := 69) Try.func81 rfl rfl rfl (St.init _ []) ?_
  refine cd_seq ?_
  refine cd_region ?_
  refine at_does (does_box rfl .agg (fun _ => .nil)) rfl (fun g1 => ?_)
  refine at_pure (pv_assign rfl) rfl ?_
  refine at_nil ?_
  refine ex_go ?_
  refine cd_seq ?_
  refine cd_region ?_
  refine at_does (does_makeMap fI (fun _ => (.cons .nil))) rfl (fun g2 => ?_)
  refine at_does (does_alloc ze_88 (.one rfl) (fun _ => (.cons (.cons .nil)))) rfl (fun g3 => ?_)
  refine at_turns (by exact turns_store sz_88 rfl rfl (.one rfl) rfl rfl (.s (.s .z)) (.rep .done) (.s (.s .z))) ?_
  refine at_nil ?_
  refine ex_go ?_
  refine cd_seq ?_
  refine cd_seq ?_
  refine cd_region ?_
  refine at_pure (pv_field0 fa_28_1 rfl (r := 1) rfl) rfl ?_
  refine at_pure (by exact pv_load ld_26 rfl (box_cell .z (.s .z))) rfl ?_
  refine at_pure (pv_len Try.underlying26 rfl) rfl ?_
  refine at_pure (pv_move rfl) rfl ?_
  refine at_nil ?_
  refine ex_go ?_
  refine cd_block ?_
  refine cd_loop (σ := Nat × List (Int × Int)) (fun s => [(1, Value.pointer (some ⟨g1, 0, none⟩)), (3, Value.pointer (some ⟨g3, 0, none⟩)), (14, .slice b ls.length cb), (15, .int .i64 ls.length), (16, .int .i64 (s.1 : Int))]) (fun s => [Box g1 [.slice a ns.length ca, .slice b ls.length cb] 28, MapP fI g2 s.2, Box g3 [.map (some g2)] 88]) (fun s => s.1 ≤ ls.length ∧ ∀ i, (mget s.2 i).getD 0 = (cntW (ls.take s.1) [] i : Int)) (fun s => ls.length - s.1) (0, []) ⟨Nat.zero_le _, fun i => rfl⟩ ⟨rfl, rfl, rfl, rfl, rfl, trivial⟩ (by repeat first | exact sLn _ | apply sLc | apply sLd) ?_
  rintro ⟨k, wt⟩ ⟨hk, hq⟩
  dsimp only at hk hq ⊢
  refine cd_seq ?_
  refine cd_region ?_
  refine at_pure (pv_lss rfl rfl) rfl ?_
  refine at_nil ?_
  refine ex_go ?_
  refine cd_seq ?_
  refine cd_if rfl (fun hlt => ?_) (fun hlt => ?_)
  · skip
    refine cd_skip ?_
    refine ex_go ?_
    refine cd_seq ?_
    refine cd_block ?_
    refine cd_seq ?_
    have hkl : k < ls.length := by simpa using hlt
    obtain ⟨z, hz⟩ := get_of hkl
    have hsm := hl.sm
    refine cd_region ?_
    refine at_pure (pv_ix Try.underlying26 cz_61 rfl rfl (by first | omega | (simp only [decide_eq_true_eq, decide_eq_false_iff_not] at *; omega)) hl.real (k := k) (by omega)) rfl ?_
    refine at_pure (pv_elems ag_61 rfl (hl.gets hz) rfl) rfl ?_
    refine at_does (does_alloc ze_61 .agg (fun _ => (.cons (.cons (.cons .nil))))) rfl (fun g4 => ?_)
    refine at_turns (by exact turns_store sz_61 rfl rfl .agg rfl rfl (.s (.s (.s .z))) (.rep (.rep (.rep (.rep .done)))) (.s (.s (.s .z)))) ?_
    refine at_nil ?_
    refine ex_go ?_
    have hv := hq z.2.2.1
    have hvl := cntW_le (ls.take k) [] z.2.2.1
    rw [List.length_take] at hvl
    refine cd_region ?_
    refine at_pure (by exact pv_load ld_88 rfl (box_cell (.s (.s .z)) .z)) rfl ?_
    refine at_pure (pv_field0 fa_61_2 rfl (r := 2) rfl) rfl ?_
    refine at_pure (by exact pv_load ld_3 rfl (box_cell (.s (.s (.s .z))) (.s (.s .z)))) rfl ?_
    refine at_pure (pv_mapgetI Try.underlying88 Try.underlying3 ze_3 rfl rfl (MapP.get (.s .z))) rfl ?_
    refine at_pure (by first | exact pv_add_n rfl rfl (by unfold In64; omega) | exact pv_add rfl rfl) rfl ?_
    refine at_turns (by exact turns_mapput (((mget wt z.2.2.1).getD 0 + 1)) Try.underlying88 Try.underlying3 rfl rfl rfl rfl (.s .z) (.s .z)) ?_
    refine at_nil ?_
    refine ex_in_normal (ex_go ?_)
    refine cd_region ?_
    refine at_pure (by first | exact pv_add_n rfl rfl (by unfold In64; omega) | exact pv_add rfl rfl) rfl ?_
    refine at_pure (pv_move rfl) rfl ?_
    refine at_nil ?_
    exact ex_meet (k + 1, mset wt z.2.2.1 ((mget wt z.2.2.1).getD 0 + 1)) ⟨⟨by dsimp only; omega, fun i => by dsimp only; rw [mget_mset, cntW_step hz]; by_cases e : z.2.2.1 = i <;> simp [e, hq]⟩, by dsimp only; omega⟩ ⟨rfl, rfl, rfl, rfl, rfl, trivial⟩ (by repeat first | exact sLn _ | apply sLc | apply sLd)
  · skip
    refine cd_exit ?_
    refine ex_then_exit (ex_then_exit (ex_in (ex_go ?_)))
    refine cd_seq ?_
    refine Cd.addNil 3 enc1 1 (.cons (.cons (.cons .nil))) ?_
    refine cd_region ?_
    refine at_pure (pv_assign rfl) rfl ?_
    refine at_nil ?_
    refine ex_go ?_
    refine cd_seq ?_
    refine cd_region ?_
    refine at_does (does_makeMap fB (fun _ => (.cons (.cons (.cons (.cons .nil)))))) rfl (fun g5 => ?_)
    refine at_does (does_alloc ze_129 (.one rfl) (fun _ => (.cons (.cons (.cons (.cons (.cons .nil))))))) rfl (fun g6 => ?_)
    refine at_turns (by exact turns_store sz_129 rfl rfl (.one rfl) rfl rfl (.s (.s (.s (.s (.s .z))))) (.rep .done) (.s (.s (.s (.s (.s .z)))))) ?_
    refine at_nil ?_
    refine ex_go ?_
    refine cd_seq ?_
    refine cd_seq ?_
    refine cd_region ?_
    refine at_pure (pv_field0 fa_28_0 rfl (r := 0) rfl) rfl ?_
    refine at_pure (by exact pv_load ld_25 rfl (box_cell .z .z)) rfl ?_
    refine at_pure (pv_len Try.underlying25 rfl) rfl ?_
    refine at_pure (pv_move rfl) rfl ?_
    refine at_nil ?_
    refine ex_go ?_
    refine cd_block ?_
    refine cd_loop (σ := Nat × (List Int × Option Addr × Nat) × List (Int × Bool) × List (Int × Int)) (fun s => [(1, Value.pointer (some ⟨g1, 0, none⟩)), (3, Value.pointer (some ⟨g3, 0, none⟩)), (6, .slice s.2.1.2.1 s.2.1.1.length s.2.1.2.2), (7, Value.pointer (some ⟨g6, 0, none⟩)), (29, .int .i64 ns.length), (30, .int .i64 (s.1 : Int))]) (fun s => [Box g1 [.slice a ns.length ca, .slice b ls.length cb] 28, MapP fI g2 s.2.2.2, Box g3 [.map (some g2)] 88, RowP enc1 1 3 s.2.1.2.1 s.2.1.2.2 s.2.1.1, MapP fB g5 s.2.2.1, Box g6 [.map (some g5)] 129]) (fun s => Rounds ns ls s.1 s.2.1.1 s.2.2.1 s.2.2.2) (fun s => ns.length - s.1) (0, ([], none, 0), [], wt) ⟨Nat.zero_le _, rfl, good_start ns ls, enough_start ns ls, fun i => rfl, fun i => by have := hq i; have hkl : k = ls.length := (by simp at hlt; omega); subst hkl; rw [List.take_length] at this; exact this⟩ ⟨rfl, rfl, rfl, rfl, rfl, rfl, trivial⟩ (by repeat first | exact sLn _ | apply sLc | apply sLd) ?_
    rintro ⟨k, ⟨out, oa, oc⟩, dn, wt⟩ hR
    dsimp only at hR ⊢
    refine cd_seq ?_
    refine cd_region ?_
    refine at_pure (pv_lss rfl rfl) rfl ?_
    refine at_nil ?_
    refine ex_go ?_
    refine cd_seq ?_
    refine cd_if rfl (fun hlt2 => ?_) (fun hlt2 => ?_)
    · have hkl2 : k < ns.length := by simpa using hlt2
      refine cd_skip ?_
      refine ex_go ?_
      refine cd_seq ?_
      refine cd_block ?_
      refine cd_seq ?_
      refine cd_region ?_
      refine at_pure (pv_field0 fa_28_0 rfl (r := 0) rfl) rfl ?_
      refine at_pure (by exact pv_load ld_25 rfl (box_cell .z .z)) rfl ?_
      refine at_pure (pv_makeFunc rfl rfl) rfl ?_
      refine at_does (does_val (v := .int .i64 (fIx (fun z : Q4 => freeB ls out z.1) ns 0)) cal87 rfl rfl rfl (fun w hs => index_nodes a ca ns (fun z : Q4 => freeB ls out z.1) 88 #[] #[Value.pointer (some ⟨g6, 0, none⟩), Value.pointer (some ⟨g3, 0, none⟩)] w (hn.at' hs) cal88 (fun z hz w' k' => by have h9 := order1_go z g6 g3 g5 g2 dn wt w' (k'.cell (by simp) (box_cell (.s (.s (.s (.s (.s .z))))) .z w hs)) (k'.cell (by simp) (box_cell (.s (.s .z)) .z w hs)) ((MapP.get (.s (.s (.s (.s .z)))) w hs).keep (by simp) k') ((MapP.get (.s .z) w hs).keep (by simp) k'); rw [hR.dn, hR.wt, ← free_cnt] at h9; exact h9))) rfl (fun _ => ?_)
      refine at_pure (pv_assign rfl) rfl ?_
      refine at_nil ?_
      refine ex_go ?_
      refine cd_seq ?_
      refine cd_seq ?_
      have hfx := fIx_next ls out ns 0 (Int.le_refl _) hpos
      refine cd_region ?_
      refine at_pure (pv_move rfl) rfl ?_
      refine at_pure (pv_lss rfl rfl) rfl ?_
      refine at_nil ?_
      refine ex_go ?_
      refine cd_if rfl (fun hneg => ?_) (fun hneg => ?_)
      · skip
        refine cd_exit ?_
        refine ex_then_exit (ex_in_other rfl (ex_then_exit (ex_then_exit (ex_in (ex_go ?_)))))
        refine cd_seq ?_
        refine cd_region ?_
        refine at_pure (pv_move rfl) rfl ?_
        refine at_pure (pv_assign rfl) rfl ?_
        refine at_nil ?_
        refine ex_go ?_
        refine cd_ret ?_
        exact end_ret1 rfl rfl (fun w hs => by have he : orderS ns ls = out := (by first | exact hR.stop (.inl (by rcases hfx with h9 | h9; exact h9.2; simp at hneg; omega)) | exact hR.stop (.inr (by simp at hlt2; omega))); exact Gives.mk' (oa, oc) (by rw [he]) (by rw [he]; repeat first | exact sLn _ | apply sLc | apply sLd) hs)
      · skip
        refine cd_skip ?_
        refine ex_go ?_
        refine cd_seq ?_
        have hneg2 : ¬ (fIx (fun z : Q4 => freeB ls out z.1) ns 0) < 0 := by simpa using hneg
        obtain ⟨hf0, y, hy, hy1, hy2⟩ := hfx.resolve_left (fun e => hneg2 e.1)
        rw [Int.sub_zero] at hy
        have hfl := fIx_range (p := fun z : Q4 => freeB ls out z.1) ns 0
        have hfr : (fIx (fun z : Q4 => freeB ls out z.1) ns 0) < ns.length := by omega
        refine cd_region ?_
        refine at_pure (pv_field0 fa_28_0 rfl (r := 0) rfl) rfl ?_
        refine at_pure (by exact pv_load ld_25 rfl (box_cell .z .z)) rfl ?_
        refine at_pure (pv_move rfl) rfl ?_
        refine at_pure (pv_ix Try.underlying25 cz_70 rfl rfl (by first | omega | (simp only [decide_eq_true_eq, decide_eq_false_iff_not] at *; omega)) hn.real (k := (fIx (fun z : Q4 => freeB ls out z.1) ns 0).toNat) (by omega)) rfl ?_
        refine at_pure (pv_fieldAddr fa_70_0 rfl) rfl ?_
        refine at_pure (pv_elem ld_3 rfl (hn.get hy .z)) rfl ?_
        refine at_pure (pv_assign rfl) rfl ?_
        refine at_nil ?_
        refine ex_go ?_
        refine cd_seq ?_
        refine cd_region ?_
        refine at_pure (by exact pv_load ld_129 rfl (box_cell (.s (.s (.s (.s (.s .z))))) .z)) rfl ?_
        refine at_pure (pv_move rfl) rfl ?_
        refine at_turns (by exact turns_mapput (true) Try.underlying129 Try.underlying3 rfl rfl rfl rfl (.s (.s (.s (.s .z)))) (.s (.s (.s (.s .z))))) ?_
        refine at_nil ?_
        refine ex_go ?_
        refine cd_seq ?_
        refine cd_region ?_
        refine at_pure (pv_move rfl) rfl ?_
        refine at_pure (pv_move rfl) rfl ?_
        refine at_does (does_list (by rfl) (by exact (bs_22_1_0 _)) (by exact (fun _ => (.cons (.cons (.cons (.cons (.cons (.cons .nil))))))))) rfl (fun g7 => ?_)
        refine at_hands (does_app (ys := [y.1]) ⟨len1, by decide, one1⟩ Try.underlying22 ap_3 rfl rfl rfl (.s (.s (.s .z))) (fun w hs => hs.box1 (enc := enc1) (.s (.s (.s (.s (.s (.s .z))))))) (by simp only [List.length_singleton]; have := hR.len; omega) (by simp) (fun _ _ => (.s (.s (.s .z))))) rfl (fun a9 c9 hr8 hc8 => ?_)
        refine at_pure (pv_assign rfl) rfl ?_
        refine at_nil ?_
        refine ex_go ?_
        refine cd_seq ?_
        refine cd_region ?_
        refine at_pure (pv_field0 fa_28_1 rfl (r := 1) rfl) rfl ?_
        refine at_pure (by exact pv_load ld_26 rfl (box_cell .z (.s .z))) rfl ?_
        refine at_pure (pv_len Try.underlying26 rfl) rfl ?_
        refine at_pure (pv_move rfl) rfl ?_
        refine at_nil ?_
        refine ex_go ?_
        refine cd_block ?_
        refine cd_loop (σ := Nat × List (Int × Int)) (fun s => [(1, Value.pointer (some ⟨g1, 0, none⟩)), (3, Value.pointer (some ⟨g3, 0, none⟩)), (6, .slice a9 (out ++ [y.1]).length c9), (7, Value.pointer (some ⟨g6, 0, none⟩)), (9, .int .i64 y.1), (29, .int .i64 ns.length), (30, .int .i64 (k : Int)), (51, .slice b ls.length cb), (52, .int .i64 ls.length), (53, .int .i64 (s.1 : Int))]) (fun s => [Box g1 [.slice a ns.length ca, .slice b ls.length cb] 28, MapP fI g2 s.2, Box g3 [.map (some g2)] 88, RowP enc1 1 3 a9 c9 (out ++ [y.1]), MapP fB g5 (mset dn y.1 true), Box g6 [.map (some g5)] 129]) (fun s => s.1 ≤ ls.length ∧ ∀ i, (mget s.2 i).getD 0 = (cntW ls out i : Int) - (cntF (ls.take s.1) y.1 i : Int)) (fun s => ls.length - s.1) (0, wt) ⟨Nat.zero_le _, fun i => by dsimp only; rw [hR.wt]; simp [cntF]⟩ ⟨rfl, rfl, rfl, rfl, rfl, rfl, rfl, rfl, rfl, rfl, trivial⟩ (by repeat first | exact sLn _ | apply sLc | apply sLd) ?_
        rintro ⟨j, wt'⟩ ⟨hj, hq2⟩
        dsimp only at hj hq2 ⊢
        refine cd_seq ?_
        refine cd_region ?_
        refine at_pure (pv_lss rfl rfl) rfl ?_
        refine at_nil ?_
        refine ex_go ?_
        refine cd_seq ?_
        refine cd_if rfl (fun hlt3 => ?_) (fun hlt3 => ?_)
        · have hjl : j < ls.length := by simpa using hlt3
          obtain ⟨x, hx2⟩ := get_of hjl
          refine cd_skip ?_
          refine ex_go ?_
          refine cd_seq ?_
          refine cd_block ?_
          refine cd_seq ?_
          refine cd_region ?_
          refine at_pure (pv_ix Try.underlying26 cz_61 rfl rfl (by first | omega | (simp only [decide_eq_true_eq, decide_eq_false_iff_not] at *; omega)) hl.real (k := j) (by omega)) rfl ?_
          refine at_pure (pv_elems ag_61 rfl (hl.gets hx2) rfl) rfl ?_
          refine at_does (does_alloc ze_61 .agg (fun _ => (.cons (.cons (.cons (.cons (.cons (.cons .nil)))))))) rfl (fun g9 => ?_)
          refine at_turns (by exact turns_store sz_61 rfl rfl .agg rfl rfl (.s (.s (.s (.s (.s (.s .z)))))) (.rep (.rep (.rep (.rep .done)))) (.s (.s (.s (.s (.s (.s .z))))))) ?_
          refine at_nil ?_
          refine ex_go ?_
          refine cd_seq ?_
          refine cd_region ?_
          refine at_pure (pv_field0 fa_61_0 rfl (r := 0) rfl) rfl ?_
          refine at_pure (by exact pv_load ld_3 rfl (box_cell (.s (.s (.s (.s (.s (.s .z)))))) .z)) rfl ?_
          refine at_pure (pv_move rfl) rfl ?_
          refine at_pure (pv_eql rfl rfl) rfl ?_
          refine at_nil ?_
          refine ex_go ?_
          refine cd_if rfl (fun hb5 => ?_) (fun hb5 => ?_)
          · skip
            have hv := hq2 x.2.2.1
            have hvl := cntW_le ls out x.2.2.1
            have hvf := cntF_le (ls.take j) y.1 x.2.2.1
            rw [List.length_take] at hvf
            refine cd_region ?_
            refine at_pure (by exact pv_load ld_88 rfl (box_cell (.s (.s .z)) .z)) rfl ?_
            refine at_pure (pv_field0 fa_61_2 rfl (r := 2) rfl) rfl ?_
            refine at_pure (by exact pv_load ld_3 rfl (box_cell (.s (.s (.s (.s (.s (.s .z)))))) (.s (.s .z)))) rfl ?_
            refine at_pure (pv_mapgetI Try.underlying88 Try.underlying3 ze_3 rfl rfl (MapP.get (.s .z))) rfl ?_
            refine at_pure (by first | exact pv_sub_n rfl rfl (by unfold In64; omega) | exact pv_sub rfl rfl) rfl ?_
            refine at_turns (by exact turns_mapput (((mget wt' x.2.2.1).getD 0 - 1)) Try.underlying88 Try.underlying3 rfl rfl rfl rfl (.s .z) (.s .z)) ?_
            refine at_nil ?_
            refine ex_in_normal (ex_go ?_)
            refine cd_region ?_
            refine at_pure (by first | exact pv_add_n rfl rfl (by unfold In64; omega) | exact pv_add rfl rfl) rfl ?_
            refine at_pure (pv_move rfl) rfl ?_
            refine at_nil ?_
            first | exact ex_meet (j + 1, mset wt' x.2.2.1 ((mget wt' x.2.2.1).getD 0 - 1)) ⟨⟨by dsimp only; omega, wt_sub hq2 hx2 (beq_iff_eq.1 (by assumption))⟩, by dsimp only; omega⟩ ⟨rfl, rfl, rfl, rfl, rfl, rfl, rfl, rfl, rfl, rfl, trivial⟩ (by repeat first | exact sLn _ | apply sLc | apply sLd) | exact ex_meet (j + 1, wt') ⟨⟨by dsimp only; omega, wt_same hq2 hx2 (beq_eq_false_iff_ne.1 (by assumption))⟩, by dsimp only; omega⟩ ⟨rfl, rfl, rfl, rfl, rfl, rfl, rfl, rfl, rfl, rfl, trivial⟩ (by repeat first | exact sLn _ | apply sLc | apply sLd)
          · skip
            refine cd_skip ?_
            refine ex_in_normal (ex_go ?_)
            refine cd_region ?_
            refine at_pure (by first | exact pv_add_n rfl rfl (by unfold In64; omega) | exact pv_add rfl rfl) rfl ?_
            refine at_pure (pv_move rfl) rfl ?_
            refine at_nil ?_
            first | exact ex_meet (j + 1, mset wt' x.2.2.1 ((mget wt' x.2.2.1).getD 0 - 1)) ⟨⟨by dsimp only; omega, wt_sub hq2 hx2 (beq_iff_eq.1 (by assumption))⟩, by dsimp only; omega⟩ ⟨rfl, rfl, rfl, rfl, rfl, rfl, rfl, rfl, rfl, rfl, trivial⟩ (by repeat first | exact sLn _ | apply sLc | apply sLd) | exact ex_meet (j + 1, wt') ⟨⟨by dsimp only; omega, wt_same hq2 hx2 (beq_eq_false_iff_ne.1 (by assumption))⟩, by dsimp only; omega⟩ ⟨rfl, rfl, rfl, rfl, rfl, rfl, rfl, rfl, rfl, rfl, trivial⟩ (by repeat first | exact sLn _ | apply sLc | apply sLd)
        · skip
          refine cd_exit ?_
          refine ex_then_exit (ex_then_exit (ex_in (ex_in_normal (ex_go ?_))))
          refine cd_region ?_
          refine at_pure (by first | exact pv_add_n rfl rfl (by unfold In64; omega) | exact pv_add rfl rfl) rfl ?_
          refine at_pure (pv_move rfl) rfl ?_
          refine at_nil ?_
          exact ex_meet (k + 1, (out ++ [y.1], a9, c9), mset dn y.1 true, wt') ⟨(hR.next hN hkl2 hy1 hy2 (fun i => by have := hq2 i; have hjl : j = ls.length := (by simp at hlt3; omega); subst hjl; rw [List.take_length] at this; exact this)), by dsimp only; omega⟩ ⟨rfl, rfl, rfl, rfl, rfl, rfl, trivial⟩ (by repeat first | exact sLn _ | apply sLc | apply sLd)
    · skip
      refine cd_exit ?_
      refine ex_then_exit (ex_then_exit (ex_in (ex_go ?_)))
      refine cd_seq ?_
      refine cd_region ?_
      refine at_pure (pv_move rfl) rfl ?_
      refine at_pure (pv_assign rfl) rfl ?_
      refine at_nil ?_
      refine ex_go ?_
      refine cd_ret ?_
      exact end_ret1 rfl rfl (fun w hs => by have he : orderS ns ls = out := (by first | exact hR.stop (.inl (by rcases hfx with h9 | h9; exact h9.2; simp at hneg; omega)) | exact hR.stop (.inr (by simp at hlt2; omega))); exact Gives.mk' (oa, oc) (by rw [he]) (by rw [he]; repeat first | exact sLn _ | apply sLc | apply sLd) hs)

end Go.Proofs.Ytkejdfnpbkdllaa
