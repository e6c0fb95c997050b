/- The walks of the schedule's reference. -/
import Derived.Test.YtkejdfnpbkdllaaF25
import Derived.Test.YtkejdfnpbkdllaaMill
set_option linter.unusedVariables false
set_option linter.unusedSimpArgs false
set_option maxRecDepth 20000
namespace Go.Proofs.Ytkejdfnpbkdllaa
open Go Go.RowKit Go.Proofs.YtkejdfnpbkdllaaV
def fIx {α : Type} (p : α → Bool) : List α → Int → Int
  | [], _ => -1
  | z :: zs, k => bif p z then k else fIx p zs (k + 1)
theorem fIx_step {α : Type} {p : α → Bool} {xs : List α} {k : Nat} {z : α} (h : fIx p xs 0 = fIx p (xs.drop k) k) (hz : xs[k]? = some z) (hp : p z = false) : fIx p xs 0 = fIx p (xs.drop (k + 1)) ((k + 1 : Nat) : Int) := by
  rw [h, drop_of hz]
  conv => lhs; unfold fIx
  rw [hp]; rfl
theorem fIx_hit {α : Type} {p : α → Bool} {xs : List α} {k : Nat} {z : α} (h : fIx p xs 0 = fIx p (xs.drop k) k) (hz : xs[k]? = some z) (hp : p z = true) : fIx p xs 0 = k := by
  rw [h, drop_of hz]
  unfold fIx
  rw [hp]; rfl
theorem fIx_end {α : Type} {p : α → Bool} {xs : List α} {k : Nat} (h : fIx p xs 0 = fIx p (xs.drop k) k) (hk : xs.length ≤ k) : fIx p xs 0 = -1 := by
  rw [h, List.drop_eq_nil_of_le hk]; rfl
theorem fIx_range {α : Type} {p : α → Bool} : ∀ (xs : List α) (k : Int), fIx p xs k = -1 ∨ (k ≤ fIx p xs k ∧ fIx p xs k < k + xs.length)
  | [], k => .inl rfl
  | z :: zs, k => by
    unfold fIx
    cases p z
    · rcases fIx_range (p := p) zs (k + 1) with h | h
      · exact .inl h
      · refine .inr ⟨?_, ?_⟩ <;> simp only [cond_false, List.length_cons] <;> omega
    · refine .inr ⟨?_, ?_⟩ <;> simp only [cond_true, List.length_cons] <;> omega
def placeI (ns : List Q4) (i : Int) : Int := fIx (fun z => z.1 == i) ns 0
def slotI (l : List Q4) (i : Int) : Int := fIx (fun z => z.1 == i) l 0
def freeI (b : List Int) (t : Int) : Int := fIx (fun z => decide (z ≤ t)) b 0

theorem place_25 (a b : Option Addr) (ca cb : Nat) (ns ls : List Q4) (i : Int) (w : World) (hn : Sl [] enc4 4 w a ca ns) (hl : Sl [] enc4 4 w b cb ls) : Calls Try.prog 42 [.agg #[.slice a ns.length ca, .slice b ls.length cb], .int .i64 i].toArray w (Val (.int .i64 (placeI ns i)) w) := by
  refine calls_body (n := 22) Try.func42 rfl rfl rfl (St.init _ []) ?_
  refine cd_seq ?_
  refine cd_region ?_
  refine at_does (does_box rfl .agg (fun _ => .nil)) rfl (fun g1 => ?_)
  refine at_pure (pv_assign rfl) rfl ?_
  refine at_nil ?_
  refine ex_go ?_
  refine cd_seq ?_
  refine cd_seq ?_
  refine cd_region ?_
  refine at_pure (pv_assign rfl) rfl ?_
  refine at_nil ?_
  refine ex_go ?_
  refine cd_block ?_
  refine cd_loop (σ := Nat) (fun s => [(1, .int .i64 i), (2, Value.pointer (some ⟨g1, 0, none⟩)), (5, .int .i64 (s : Int))]) (fun s => [Box g1 [.slice a ns.length ca, .slice b ls.length cb] 28]) (fun s => s ≤ ns.length ∧ fIx (fun z => z.1 == i) ns 0 = fIx (fun z => z.1 == i) (ns.drop s) (s : Int)) (fun s => ns.length - s) 0 ⟨Nat.zero_le _, rfl⟩ ⟨rfl, rfl, rfl, trivial⟩ (by repeat first | exact sLn _ | apply sLc | apply sLd) ?_
  rintro k ⟨hk, hq⟩
  refine cd_seq ?_
  refine cd_seq ?_
  refine cd_region ?_
  refine at_pure (pv_move rfl) rfl ?_
  refine at_pure (pv_field0 fa_28_0 rfl (r := 0) rfl) rfl ?_
  refine at_pure (by exact pv_load ld_25 rfl (box_cell .z .z)) rfl ?_
  refine at_pure (pv_len Try.underlying25 rfl) rfl ?_
  refine at_pure (pv_lss rfl rfl) rfl ?_
  refine at_nil ?_
  refine ex_go ?_
  refine cd_if rfl (fun hlt => ?_) (fun hlt => ?_)
  · skip
    refine cd_skip ?_
    refine ex_go ?_
    refine cd_seq ?_
    refine cd_block ?_
    refine cd_seq ?_
    have hkl : k < ns.length := by simpa using hlt
    obtain ⟨z, hz⟩ := get_of hkl
    have hsm := hn.sm
    refine cd_region ?_
    refine at_pure (pv_field0 fa_28_0 rfl (r := 0) rfl) rfl ?_
    refine at_pure (by exact pv_load ld_25 rfl (box_cell .z .z)) rfl ?_
    refine at_pure (pv_move rfl) rfl ?_
    refine at_pure (pv_ix Try.underlying25 cz_70 rfl rfl (by first | omega | (simp only [decide_eq_true_eq, decide_eq_false_iff_not] at *; omega)) hn.real (k := k) (by omega)) rfl ?_
    refine at_pure (pv_fieldAddr fa_70_0 rfl) rfl ?_
    refine at_pure (pv_elem ld_3 rfl (hn.get hz .z)) rfl ?_
    refine at_pure (pv_move rfl) rfl ?_
    refine at_pure (pv_eql rfl rfl) rfl ?_
    refine at_nil ?_
    refine ex_go ?_
    refine cd_if rfl (fun hf => ?_) (fun hf => ?_)
    · skip
      refine cd_seq ?_
      refine cd_region ?_
      refine at_pure (pv_move rfl) rfl ?_
      refine at_pure (pv_assign rfl) rfl ?_
      refine at_nil ?_
      refine ex_go ?_
      refine cd_ret ?_
      refine ex_in_ret (ex_then_ret (ex_then_ret (ex_in_ret (ex_then_ret ?_))))
      exact end_ret1 rfl rfl (fun w hs => ⟨by clear hs; refine congrArg (fun b => Ending.returned (.int .i64 b)) ?_; first | exact (fIx_hit hq hz hf).symm | exact (fIx_end hq (by simp at hlt; omega)).symm, hs.keep⟩)
    · skip
      refine cd_skip ?_
      refine ex_in_normal (ex_go ?_)
      refine cd_region ?_
      refine at_pure (pv_move rfl) rfl ?_
      refine at_pure (by first | exact pv_add_n rfl rfl (by unfold In64; omega) | exact pv_add rfl rfl) rfl ?_
      refine at_pure (pv_assign rfl) rfl ?_
      refine at_nil ?_
      exact ex_meet (k + 1) ⟨⟨by omega, fIx_step hq hz hf⟩, by omega⟩ ⟨rfl, rfl, rfl, trivial⟩ (by repeat first | exact sLn _ | apply sLc | apply sLd)
  · skip
    refine cd_exit ?_
    refine ex_then_exit (ex_then_exit (ex_in (ex_go ?_)))
    refine cd_seq ?_
    refine cd_region ?_
    refine at_pure (pv_assign rfl) rfl ?_
    refine at_nil ?_
    refine ex_go ?_
    refine cd_ret ?_
    exact end_ret1 rfl rfl (fun w hs => ⟨by clear hs; refine congrArg (fun b => Ending.returned (.int .i64 b)) ?_; first | exact (fIx_hit hq hz hf).symm | exact (fIx_end hq (by simp at hlt; omega)).symm, hs.keep⟩)

theorem place_26 (a b : Option Addr) (ca cb : Nat) (ns ls : List Q4) (i : Int) (w : World) (hn : Sl [] enc4 4 w a ca ns) (hl : Sl [] enc4 4 w b cb ls) : Calls Try.prog 59 [.agg #[.slice a ns.length ca, .slice b ls.length cb], .int .i64 i].toArray w (Val (.int .i64 (placeI ns i)) w) := by
  refine calls_body (n := 22) Try.func59 rfl rfl rfl (St.init _ []) ?_
  refine cd_seq ?_
  refine cd_region ?_
  refine at_does (does_box rfl .agg (fun _ => .nil)) rfl (fun g1 => ?_)
  refine at_pure (pv_assign rfl) rfl ?_
  refine at_nil ?_
  refine ex_go ?_
  refine cd_seq ?_
  refine cd_seq ?_
  refine cd_region ?_
  refine at_pure (pv_assign rfl) rfl ?_
  refine at_nil ?_
  refine ex_go ?_
  refine cd_block ?_
  refine cd_loop (σ := Nat) (fun s => [(1, .int .i64 i), (2, Value.pointer (some ⟨g1, 0, none⟩)), (5, .int .i64 (s : Int))]) (fun s => [Box g1 [.slice a ns.length ca, .slice b ls.length cb] 28]) (fun s => s ≤ ns.length ∧ fIx (fun z => z.1 == i) ns 0 = fIx (fun z => z.1 == i) (ns.drop s) (s : Int)) (fun s => ns.length - s) 0 ⟨Nat.zero_le _, rfl⟩ ⟨rfl, rfl, rfl, trivial⟩ (by repeat first | exact sLn _ | apply sLc | apply sLd) ?_
  rintro k ⟨hk, hq⟩
  refine cd_seq ?_
  refine cd_seq ?_
  refine cd_region ?_
  refine at_pure (pv_move rfl) rfl ?_
  refine at_pure (pv_field0 fa_28_0 rfl (r := 0) rfl) rfl ?_
  refine at_pure (by exact pv_load ld_25 rfl (box_cell .z .z)) rfl ?_
  refine at_pure (pv_len Try.underlying25 rfl) rfl ?_
  refine at_pure (pv_lss rfl rfl) rfl ?_
  refine at_nil ?_
  refine ex_go ?_
  refine cd_if rfl (fun hlt => ?_) (fun hlt => ?_)
  · skip
    refine cd_skip ?_
    refine ex_go ?_
    refine cd_seq ?_
    refine cd_block ?_
    refine cd_seq ?_
    have hkl : k < ns.length := by simpa using hlt
    obtain ⟨z, hz⟩ := get_of hkl
    have hsm := hn.sm
    refine cd_region ?_
    refine at_pure (pv_field0 fa_28_0 rfl (r := 0) rfl) rfl ?_
    refine at_pure (by exact pv_load ld_25 rfl (box_cell .z .z)) rfl ?_
    refine at_pure (pv_move rfl) rfl ?_
    refine at_pure (pv_ix Try.underlying25 cz_70 rfl rfl (by first | omega | (simp only [decide_eq_true_eq, decide_eq_false_iff_not] at *; omega)) hn.real (k := k) (by omega)) rfl ?_
    refine at_pure (pv_fieldAddr fa_70_0 rfl) rfl ?_
    refine at_pure (pv_elem ld_3 rfl (hn.get hz .z)) rfl ?_
    refine at_pure (pv_move rfl) rfl ?_
    refine at_pure (pv_eql rfl rfl) rfl ?_
    refine at_nil ?_
    refine ex_go ?_
    refine cd_if rfl (fun hf => ?_) (fun hf => ?_)
    · skip
      refine cd_seq ?_
      refine cd_region ?_
      refine at_pure (pv_move rfl) rfl ?_
      refine at_pure (pv_assign rfl) rfl ?_
      refine at_nil ?_
      refine ex_go ?_
      refine cd_ret ?_
      refine ex_in_ret (ex_then_ret (ex_then_ret (ex_in_ret (ex_then_ret ?_))))
      exact end_ret1 rfl rfl (fun w hs => ⟨by clear hs; refine congrArg (fun b => Ending.returned (.int .i64 b)) ?_; first | exact (fIx_hit hq hz hf).symm | exact (fIx_end hq (by simp at hlt; omega)).symm, hs.keep⟩)
    · skip
      refine cd_skip ?_
      refine ex_in_normal (ex_go ?_)
      refine cd_region ?_
      refine at_pure (pv_move rfl) rfl ?_
      refine at_pure (by first | exact pv_add_n rfl rfl (by unfold In64; omega) | exact pv_add rfl rfl) rfl ?_
      refine at_pure (pv_assign rfl) rfl ?_
      refine at_nil ?_
      exact ex_meet (k + 1) ⟨⟨by omega, fIx_step hq hz hf⟩, by omega⟩ ⟨rfl, rfl, rfl, trivial⟩ (by repeat first | exact sLn _ | apply sLc | apply sLd)
  · skip
    refine cd_exit ?_
    refine ex_then_exit (ex_then_exit (ex_in (ex_go ?_)))
    refine cd_seq ?_
    refine cd_region ?_
    refine at_pure (pv_assign rfl) rfl ?_
    refine at_nil ?_
    refine ex_go ?_
    refine cd_ret ?_
    exact end_ret1 rfl rfl (fun w hs => ⟨by clear hs; refine congrArg (fun b => Ending.returned (.int .i64 b)) ?_; first | exact (fIx_hit hq hz hf).symm | exact (fIx_end hq (by simp at hlt; omega)).symm, hs.keep⟩)

theorem slot_ref (c : Option Addr) (cc : Nat) (l : List Q4) (i : Int) (w : World) (hs4 : Sl [] enc4 4 w c cc l) : Calls Try.prog 44 [.slice c l.length cc, .int .i64 i].toArray w (Val (.int .i64 (slotI l i)) w) := by
  refine calls_body (n := 20) Try.func44 rfl rfl rfl (St.init _ []) ?_
  refine cd_seq ?_
  refine cd_region ?_
  refine at_pure (pv_assign rfl) rfl ?_
  refine at_nil ?_
  refine ex_go ?_
  refine cd_seq ?_
  refine cd_seq ?_
  refine cd_region ?_
  refine at_pure (pv_assign rfl) rfl ?_
  refine at_nil ?_
  refine ex_go ?_
  refine cd_block ?_
  refine cd_loop (σ := Nat) (fun s => [(0, .slice c l.length cc), (1, .int .i64 i), (5, .int .i64 (s : Int))]) (fun s => []) (fun s => s ≤ l.length ∧ fIx (fun z => z.1 == i) l 0 = fIx (fun z => z.1 == i) (l.drop s) (s : Int)) (fun s => l.length - s) 0 ⟨Nat.zero_le _, rfl⟩ ⟨rfl, rfl, rfl, trivial⟩ (by repeat first | exact sLn _ | apply sLc | apply sLd) ?_
  rintro k ⟨hk, hq⟩
  refine cd_seq ?_
  refine cd_seq ?_
  refine cd_region ?_
  refine at_pure (pv_move rfl) rfl ?_
  refine at_pure (pv_move rfl) rfl ?_
  refine at_pure (pv_len Try.underlying23 rfl) rfl ?_
  refine at_pure (pv_lss rfl rfl) rfl ?_
  refine at_nil ?_
  refine ex_go ?_
  refine cd_if rfl (fun hlt => ?_) (fun hlt => ?_)
  · skip
    refine cd_skip ?_
    refine ex_go ?_
    refine cd_seq ?_
    refine cd_block ?_
    refine cd_seq ?_
    have hkl : k < l.length := by simpa using hlt
    obtain ⟨z, hz⟩ := get_of hkl
    have hsm := hs4.sm
    refine cd_region ?_
    refine at_pure (pv_move rfl) rfl ?_
    refine at_pure (pv_move rfl) rfl ?_
    refine at_pure (pv_ix Try.underlying23 cz_39 rfl rfl (by first | omega | (simp only [decide_eq_true_eq, decide_eq_false_iff_not] at *; omega)) hs4.real (k := k) (by omega)) rfl ?_
    refine at_pure (pv_fieldAddr fa_39_0 rfl) rfl ?_
    refine at_pure (pv_elem ld_3 rfl (hs4.get hz .z)) rfl ?_
    refine at_pure (pv_move rfl) rfl ?_
    refine at_pure (pv_eql rfl rfl) rfl ?_
    refine at_nil ?_
    refine ex_go ?_
    refine cd_if rfl (fun hf => ?_) (fun hf => ?_)
    · skip
      refine cd_seq ?_
      refine cd_region ?_
      refine at_pure (pv_move rfl) rfl ?_
      refine at_pure (pv_assign rfl) rfl ?_
      refine at_nil ?_
      refine ex_go ?_
      refine cd_ret ?_
      refine ex_in_ret (ex_then_ret (ex_then_ret (ex_in_ret (ex_then_ret ?_))))
      exact end_ret1 rfl rfl (fun w hs => ⟨by clear hs; refine congrArg (fun b => Ending.returned (.int .i64 b)) ?_; first | exact (fIx_hit hq hz hf).symm | exact (fIx_end hq (by simp at hlt; omega)).symm, hs.keep⟩)
    · skip
      refine cd_skip ?_
      refine ex_in_normal (ex_go ?_)
      refine cd_region ?_
      refine at_pure (pv_move rfl) rfl ?_
      refine at_pure (by first | exact pv_add_n rfl rfl (by unfold In64; omega) | exact pv_add rfl rfl) rfl ?_
      refine at_pure (pv_assign rfl) rfl ?_
      refine at_nil ?_
      exact ex_meet (k + 1) ⟨⟨by omega, fIx_step hq hz hf⟩, by omega⟩ ⟨rfl, rfl, rfl, trivial⟩ (by repeat first | exact sLn _ | apply sLc | apply sLd)
  · skip
    refine cd_exit ?_
    refine ex_then_exit (ex_then_exit (ex_in (ex_go ?_)))
    refine cd_seq ?_
    refine cd_region ?_
    refine at_pure (pv_assign rfl) rfl ?_
    refine at_nil ?_
    refine ex_go ?_
    refine cd_ret ?_
    exact end_ret1 rfl rfl (fun w hs => ⟨by clear hs; refine congrArg (fun b => Ending.returned (.int .i64 b)) ?_; first | exact (fIx_hit hq hz hf).symm | exact (fIx_end hq (by simp at hlt; omega)).symm, hs.keep⟩)

theorem free_ref (c : Option Addr) (cc : Nat) (xs : List Int) (t : Int) (w : World) (hx : Sl [] enc1 1 w c cc xs) : Calls Try.prog 40 [.slice c xs.length cc, .int .i64 t].toArray w (Val (.int .i64 (freeI xs t)) w) := by
  refine calls_body (n := 19) Try.func40 rfl rfl rfl (St.init _ []) ?_
  refine cd_seq ?_
  refine cd_region ?_
  refine at_pure (pv_assign rfl) rfl ?_
  refine at_nil ?_
  refine ex_go ?_
  refine cd_seq ?_
  refine cd_seq ?_
  refine cd_region ?_
  refine at_pure (pv_assign rfl) rfl ?_
  refine at_nil ?_
  refine ex_go ?_
  refine cd_block ?_
  refine cd_loop (σ := Nat) (fun s => [(0, .slice c xs.length cc), (1, .int .i64 t), (5, .int .i64 (s : Int))]) (fun s => []) (fun s => s ≤ xs.length ∧ fIx (fun z => decide (z ≤ t)) xs 0 = fIx (fun z => decide (z ≤ t)) (xs.drop s) (s : Int)) (fun s => xs.length - s) 0 ⟨Nat.zero_le _, rfl⟩ ⟨rfl, rfl, rfl, trivial⟩ (by repeat first | exact sLn _ | apply sLc | apply sLd) ?_
  rintro k ⟨hk, hq⟩
  refine cd_seq ?_
  refine cd_seq ?_
  refine cd_region ?_
  refine at_pure (pv_move rfl) rfl ?_
  refine at_pure (pv_move rfl) rfl ?_
  refine at_pure (pv_len Try.underlying22 rfl) rfl ?_
  refine at_pure (pv_lss rfl rfl) rfl ?_
  refine at_nil ?_
  refine ex_go ?_
  refine cd_if rfl (fun hlt => ?_) (fun hlt => ?_)
  · skip
    refine cd_skip ?_
    refine ex_go ?_
    refine cd_seq ?_
    refine cd_block ?_
    refine cd_seq ?_
    have hkl : k < xs.length := by simpa using hlt
    obtain ⟨z, hz⟩ := get_of hkl
    have hsm := hx.sm
    refine cd_region ?_
    refine at_pure (pv_move rfl) rfl ?_
    refine at_pure (pv_move rfl) rfl ?_
    refine at_pure (pv_ix Try.underlying22 cz_3 rfl rfl (by first | omega | (simp only [decide_eq_true_eq, decide_eq_false_iff_not] at *; omega)) hx.real (k := k) (by omega)) rfl ?_
    refine at_pure (pv_elem0 ld_3 rfl (hx.get hz .z)) rfl ?_
    refine at_pure (pv_move rfl) rfl ?_
    refine at_pure (pv_leq rfl rfl) rfl ?_
    refine at_nil ?_
    refine ex_go ?_
    refine cd_if rfl (fun hf => ?_) (fun hf => ?_)
    · skip
      refine cd_seq ?_
      refine cd_region ?_
      refine at_pure (pv_move rfl) rfl ?_
      refine at_pure (pv_assign rfl) rfl ?_
      refine at_nil ?_
      refine ex_go ?_
      refine cd_ret ?_
      refine ex_in_ret (ex_then_ret (ex_then_ret (ex_in_ret (ex_then_ret ?_))))
      exact end_ret1 rfl rfl (fun w hs => ⟨by clear hs; refine congrArg (fun b => Ending.returned (.int .i64 b)) ?_; first | exact (fIx_hit hq hz hf).symm | exact (fIx_end hq (by simp at hlt; omega)).symm, hs.keep⟩)
    · skip
      refine cd_skip ?_
      refine ex_in_normal (ex_go ?_)
      refine cd_region ?_
      refine at_pure (pv_move rfl) rfl ?_
      refine at_pure (by first | exact pv_add_n rfl rfl (by unfold In64; omega) | exact pv_add rfl rfl) rfl ?_
      refine at_pure (pv_assign rfl) rfl ?_
      refine at_nil ?_
      exact ex_meet (k + 1) ⟨⟨by omega, fIx_step hq hz hf⟩, by omega⟩ ⟨rfl, rfl, rfl, trivial⟩ (by repeat first | exact sLn _ | apply sLc | apply sLd)
  · skip
    refine cd_exit ?_
    refine ex_then_exit (ex_then_exit (ex_in (ex_go ?_)))
    refine cd_seq ?_
    refine cd_region ?_
    refine at_pure (pv_assign rfl) rfl ?_
    refine at_nil ?_
    refine ex_go ?_
    refine cd_ret ?_
    exact end_ret1 rfl rfl (fun w hs => ⟨by clear hs; refine congrArg (fun b => Ending.returned (.int .i64 b)) ?_; first | exact (fIx_hit hq hz hf).symm | exact (fIx_end hq (by simp at hlt; omega)).symm, hs.keep⟩)

def laterF (t out : Int) (s : Q4) : Int := bif decide (t < s.2.2.2) && (decide (out < 0) || decide (s.2.2.2 < out)) then s.2.2.2 else out
def laterS (l : List Q4) (t : Int) : Int := l.foldl (laterF t) (-1)
def spanF (n : Int) (s : Q4) : Int := if s.2.2.2 > n then s.2.2.2 else n
def spanS (l : List Q4) : Int := l.foldl spanF 0
theorem fold_step {α β : Type} {f : β → α → β} {xs : List α} {b0 b b' : β} {k : Nat} {z : α} (h : xs.foldl f b0 = (xs.drop k).foldl f b) (hz : xs[k]? = some z) (hb : f b z = b') : xs.foldl f b0 = (xs.drop (k + 1)).foldl f b' := by
  rw [h, drop_of hz, List.foldl_cons, hb]
theorem fold_end {α β : Type} {f : β → α → β} {xs : List α} {b0 b : β} {k : Nat} (h : xs.foldl f b0 = (xs.drop k).foldl f b) (hk : xs.length ≤ k) : xs.foldl f b0 = b := by
  rw [h, List.drop_eq_nil_of_le hk]; rfl

theorem later_ref (c : Option Addr) (cc : Nat) (l : List Q4) (t : Int) (w : World) (hs4 : Sl [] enc4 4 w c cc l) : Calls Try.prog 41 [.slice c l.length cc, .int .i64 t].toArray w (Val (.int .i64 (laterS l t)) w) := by
  refine calls_body (n := 39) Try.func41 rfl rfl rfl (St.init _ []) ?_
  refine cd_seq ?_
  refine cd_region ?_
  refine at_pure (pv_assign rfl) rfl ?_
  refine at_nil ?_
  refine ex_go ?_
  refine cd_seq ?_
  refine cd_region ?_
  refine at_pure (pv_assign rfl) rfl ?_
  refine at_nil ?_
  refine ex_go ?_
  refine cd_seq ?_
  refine cd_seq ?_
  refine cd_region ?_
  refine at_pure (pv_assign rfl) rfl ?_
  refine at_nil ?_
  refine ex_go ?_
  refine cd_block ?_
  refine cd_loop (σ := Nat × Int) (fun s => [(0, .slice c l.length cc), (1, .int .i64 t), (5, .int .i64 s.2), (6, .int .i64 (s.1 : Int))]) (fun s => []) (fun s => s.1 ≤ l.length ∧ l.foldl (laterF t) (-1) = (l.drop s.1).foldl (laterF t) s.2) (fun s => l.length - s.1) (0, -1) ⟨Nat.zero_le _, rfl⟩ ⟨rfl, rfl, rfl, rfl, trivial⟩ (by repeat first | exact sLn _ | apply sLc | apply sLd) ?_
  rintro ⟨k, o⟩ ⟨hk, hq⟩
  dsimp only at hk hq ⊢
  refine cd_seq ?_
  refine cd_seq ?_
  refine cd_region ?_
  refine at_pure (pv_move rfl) rfl ?_
  refine at_pure (pv_move rfl) rfl ?_
  refine at_pure (pv_len Try.underlying23 rfl) rfl ?_
  refine at_pure (pv_lss rfl rfl) rfl ?_
  refine at_nil ?_
  refine ex_go ?_
  refine cd_if rfl (fun hlt => ?_) (fun hlt => ?_)
  · skip
    refine cd_skip ?_
    refine ex_go ?_
    refine cd_seq ?_
    refine cd_block ?_
    refine cd_seq ?_
    have hkl : k < l.length := by simpa using hlt
    obtain ⟨z, hz⟩ := get_of hkl
    have hsm := hs4.sm
    refine cd_region ?_
    refine at_pure (pv_move rfl) rfl ?_
    refine at_pure (pv_move rfl) rfl ?_
    refine at_pure (pv_ix Try.underlying23 cz_39 rfl rfl (by first | omega | (simp only [decide_eq_true_eq, decide_eq_false_iff_not] at *; omega)) hs4.real (k := k) (by omega)) rfl ?_
    refine at_pure (pv_fieldAddr fa_39_3 rfl) rfl ?_
    refine at_pure (pv_elem ld_3 rfl (hs4.get hz (.s (.s (.s .z))))) rfl ?_
    refine at_pure (pv_move rfl) rfl ?_
    refine at_pure (pv_gtr rfl rfl) rfl ?_
    refine at_pure (pv_move rfl) rfl ?_
    refine at_split 20 rfl (fun hb2 => ?_) (fun hb2 => ?_)
    · skip
      refine at_pure_g rfl rfl hb2 (pv_move rfl) rfl ?_
      refine at_pure_g rfl rfl hb2 (pv_lss rfl rfl) rfl ?_
      refine at_pure_g rfl rfl hb2 (pv_move rfl) rfl ?_
      refine at_split 23 rfl (fun hb3 => ?_) (fun hb3 => ?_)
      · skip
        refine at_skip rfl rfl hb3 rfl ?_
        refine at_skip rfl rfl hb3 rfl ?_
        refine at_skip rfl rfl hb3 rfl ?_
        refine at_skip rfl rfl hb3 rfl ?_
        refine at_skip rfl rfl hb3 rfl ?_
        refine at_skip rfl rfl hb3 rfl ?_
        refine at_skip rfl rfl hb3 rfl ?_
        refine at_pure_g rfl rfl hb2 (pv_pick_t rfl hb3 rfl) rfl ?_
        refine at_pure (pv_pick_t rfl hb2 rfl) rfl ?_
        refine at_nil ?_
        refine ex_go ?_
        refine cd_then rfl rfl ?_
        refine cd_region ?_
        refine at_pure (pv_move rfl) rfl ?_
        refine at_pure (pv_move rfl) rfl ?_
        refine at_pure (pv_ix Try.underlying23 cz_39 rfl rfl (by first | omega | (simp only [decide_eq_true_eq, decide_eq_false_iff_not] at *; omega)) hs4.real (k := k) (by omega)) rfl ?_
        refine at_pure (pv_fieldAddr fa_39_3 rfl) rfl ?_
        refine at_pure (pv_elem ld_3 rfl (hs4.get hz (.s (.s (.s .z))))) rfl ?_
        refine at_pure (pv_assign rfl) rfl ?_
        refine at_nil ?_
        refine ex_in_normal (ex_go ?_)
        refine cd_region ?_
        refine at_pure (pv_move rfl) rfl ?_
        refine at_pure (by first | exact pv_add_n rfl rfl (by unfold In64; omega) | exact pv_add rfl rfl) rfl ?_
        refine at_pure (pv_assign rfl) rfl ?_
        refine at_nil ?_
        exact ex_meet (k + 1, _) ⟨⟨by dsimp only; omega, fold_step hq hz (by simp only [laterF, Bool.and_true, Bool.true_and, Bool.and_false, Bool.false_and, Bool.or_true, Bool.true_or, Bool.or_false, Bool.false_or, cond_true, cond_false, *])⟩, by dsimp only; omega⟩ ⟨rfl, rfl, rfl, rfl, trivial⟩ (by repeat first | exact sLn _ | apply sLc | apply sLd)
      · skip
        refine at_pure_g rfl rfl hb3 (pv_move rfl) rfl ?_
        refine at_pure_g rfl rfl hb3 (pv_move rfl) rfl ?_
        refine at_pure_g rfl rfl hb3 (pv_ix Try.underlying23 cz_39 rfl rfl (by first | omega | (simp only [decide_eq_true_eq, decide_eq_false_iff_not] at *; omega)) hs4.real (k := k) (by omega)) rfl ?_
        refine at_pure_g rfl rfl hb3 (pv_fieldAddr fa_39_3 rfl) rfl ?_
        refine at_pure_g rfl rfl hb3 (pv_elem ld_3 rfl (hs4.get hz (.s (.s (.s .z))))) rfl ?_
        refine at_pure_g rfl rfl hb3 (pv_move rfl) rfl ?_
        refine at_pure_g rfl rfl hb3 (pv_lss rfl rfl) rfl ?_
        refine at_pure_g rfl rfl hb2 (pv_pick_f rfl hb3 rfl) rfl ?_
        refine at_pure (pv_pick_t rfl hb2 rfl) rfl ?_
        refine at_nil ?_
        refine ex_go ?_
        refine cd_if rfl (fun hb4 => ?_) (fun hb4 => ?_)
        · skip
          refine cd_region ?_
          refine at_pure (pv_move rfl) rfl ?_
          refine at_pure (pv_move rfl) rfl ?_
          refine at_pure (pv_ix Try.underlying23 cz_39 rfl rfl (by first | omega | (simp only [decide_eq_true_eq, decide_eq_false_iff_not] at *; omega)) hs4.real (k := k) (by omega)) rfl ?_
          refine at_pure (pv_fieldAddr fa_39_3 rfl) rfl ?_
          refine at_pure (pv_elem ld_3 rfl (hs4.get hz (.s (.s (.s .z))))) rfl ?_
          refine at_pure (pv_assign rfl) rfl ?_
          refine at_nil ?_
          refine ex_in_normal (ex_go ?_)
          refine cd_region ?_
          refine at_pure (pv_move rfl) rfl ?_
          refine at_pure (by first | exact pv_add_n rfl rfl (by unfold In64; omega) | exact pv_add rfl rfl) rfl ?_
          refine at_pure (pv_assign rfl) rfl ?_
          refine at_nil ?_
          exact ex_meet (k + 1, _) ⟨⟨by dsimp only; omega, fold_step hq hz (by simp only [laterF, Bool.and_true, Bool.true_and, Bool.and_false, Bool.false_and, Bool.or_true, Bool.true_or, Bool.or_false, Bool.false_or, cond_true, cond_false, *])⟩, by dsimp only; omega⟩ ⟨rfl, rfl, rfl, rfl, trivial⟩ (by repeat first | exact sLn _ | apply sLc | apply sLd)
        · skip
          refine cd_skip ?_
          refine ex_in_normal (ex_go ?_)
          refine cd_region ?_
          refine at_pure (pv_move rfl) rfl ?_
          refine at_pure (by first | exact pv_add_n rfl rfl (by unfold In64; omega) | exact pv_add rfl rfl) rfl ?_
          refine at_pure (pv_assign rfl) rfl ?_
          refine at_nil ?_
          exact ex_meet (k + 1, _) ⟨⟨by dsimp only; omega, fold_step hq hz (by simp only [laterF, Bool.and_true, Bool.true_and, Bool.and_false, Bool.false_and, Bool.or_true, Bool.true_or, Bool.or_false, Bool.false_or, cond_true, cond_false, *])⟩, by dsimp only; omega⟩ ⟨rfl, rfl, rfl, rfl, trivial⟩ (by repeat first | exact sLn _ | apply sLc | apply sLd)
    · skip
      refine at_skip rfl rfl hb2 rfl ?_
      refine at_skip rfl rfl hb2 rfl ?_
      refine at_skip rfl rfl hb2 rfl ?_
      refine at_skip_u rfl rfl rfl ?_
      refine at_skip_u rfl rfl rfl ?_
      refine at_skip_u rfl rfl rfl ?_
      refine at_skip_u rfl rfl rfl ?_
      refine at_skip_u rfl rfl rfl ?_
      refine at_skip_u rfl rfl rfl ?_
      refine at_skip_u rfl rfl rfl ?_
      refine at_skip rfl rfl hb2 rfl ?_
      refine at_pure (pv_pick_f rfl hb2 rfl) rfl ?_
      refine at_nil ?_
      refine ex_go ?_
      refine cd_else rfl rfl ?_
      refine cd_skip ?_
      refine ex_in_normal (ex_go ?_)
      refine cd_region ?_
      refine at_pure (pv_move rfl) rfl ?_
      refine at_pure (by first | exact pv_add_n rfl rfl (by unfold In64; omega) | exact pv_add rfl rfl) rfl ?_
      refine at_pure (pv_assign rfl) rfl ?_
      refine at_nil ?_
      exact ex_meet (k + 1, _) ⟨⟨by dsimp only; omega, fold_step hq hz (by simp only [laterF, Bool.and_true, Bool.true_and, Bool.and_false, Bool.false_and, Bool.or_true, Bool.true_or, Bool.or_false, Bool.false_or, cond_true, cond_false, *])⟩, by dsimp only; omega⟩ ⟨rfl, rfl, rfl, rfl, trivial⟩ (by repeat first | exact sLn _ | apply sLc | apply sLd)
  · skip
    refine cd_exit ?_
    refine ex_then_exit (ex_then_exit (ex_in (ex_go ?_)))
    refine cd_seq ?_
    refine cd_region ?_
    refine at_pure (pv_move rfl) rfl ?_
    refine at_pure (pv_assign rfl) rfl ?_
    refine at_nil ?_
    refine ex_go ?_
    refine cd_ret ?_
    exact end_ret1 rfl rfl (fun w hs => ⟨by clear hs; exact congrArg (fun b => Ending.returned (.int .i64 b)) (fold_end hq (by simp at hlt; omega)).symm, hs.keep⟩)

theorem span_ref (c : Option Addr) (cc : Nat) (l : List Q4) (w : World) (hs4 : Sl [] enc4 4 w c cc l) : Calls Try.prog 28 [.slice c l.length cc].toArray w (Val (.int .i64 (spanS l)) w) := by
  refine calls_body (n := 19) Try.func28 rfl rfl rfl (St.init _ []) ?_
  refine cd_seq ?_
  refine cd_region ?_
  refine at_pure (pv_assign rfl) rfl ?_
  refine at_nil ?_
  refine ex_go ?_
  refine cd_seq ?_
  refine cd_region ?_
  refine at_pure (pv_assign rfl) rfl ?_
  refine at_nil ?_
  refine ex_go ?_
  refine cd_seq ?_
  refine cd_seq ?_
  refine cd_region ?_
  refine at_pure (pv_assign rfl) rfl ?_
  refine at_nil ?_
  refine ex_go ?_
  refine cd_block ?_
  refine cd_loop (σ := Nat × Int) (fun s => [(0, .slice c l.length cc), (3, .int .i64 s.2), (4, .int .i64 (s.1 : Int))]) (fun s => []) (fun s => s.1 ≤ l.length ∧ l.foldl spanF 0 = (l.drop s.1).foldl spanF s.2) (fun s => l.length - s.1) (0, 0) ⟨Nat.zero_le _, rfl⟩ ⟨rfl, rfl, rfl, trivial⟩ (by repeat first | exact sLn _ | apply sLc | apply sLd) ?_
  rintro ⟨k, o⟩ ⟨hk, hq⟩
  dsimp only at hk hq ⊢
  refine cd_seq ?_
  refine cd_seq ?_
  refine cd_region ?_
  refine at_pure (pv_move rfl) rfl ?_
  refine at_pure (pv_move rfl) rfl ?_
  refine at_pure (pv_len Try.underlying23 rfl) rfl ?_
  refine at_pure (pv_lss rfl rfl) rfl ?_
  refine at_nil ?_
  refine ex_go ?_
  refine cd_if rfl (fun hlt => ?_) (fun hlt => ?_)
  · skip
    refine cd_skip ?_
    refine ex_go ?_
    refine cd_seq ?_
    refine cd_block ?_
    have hkl : k < l.length := by simpa using hlt
    obtain ⟨z, hz⟩ := get_of hkl
    have hsm := hs4.sm
    refine cd_region ?_
    refine at_pure (pv_move rfl) rfl ?_
    refine at_pure (pv_move rfl) rfl ?_
    refine at_pure (pv_move rfl) rfl ?_
    refine at_pure (pv_ix Try.underlying23 cz_39 rfl rfl (by first | omega | (simp only [decide_eq_true_eq, decide_eq_false_iff_not] at *; omega)) hs4.real (k := k) (by omega)) rfl ?_
    refine at_pure (pv_fieldAddr fa_39_3 rfl) rfl ?_
    refine at_pure (pv_elem ld_3 rfl (hs4.get hz (.s (.s (.s .z))))) rfl ?_
    refine at_pure (pv_max rfl rfl) rfl ?_
    refine at_pure (pv_assign rfl) rfl ?_
    refine at_nil ?_
    refine ex_in_normal (ex_go ?_)
    refine cd_region ?_
    refine at_pure (pv_move rfl) rfl ?_
    refine at_pure (by first | exact pv_add_n rfl rfl (by unfold In64; omega) | exact pv_add rfl rfl) rfl ?_
    refine at_pure (pv_assign rfl) rfl ?_
    refine at_nil ?_
    exact ex_meet (k + 1, spanF o z) ⟨⟨by dsimp only; omega, fold_step hq hz rfl⟩, by dsimp only; omega⟩ ⟨rfl, rfl, rfl, trivial⟩ (by repeat first | exact sLn _ | apply sLc | apply sLd)
  · skip
    refine cd_exit ?_
    refine ex_then_exit (ex_then_exit (ex_in (ex_go ?_)))
    refine cd_seq ?_
    refine cd_region ?_
    refine at_pure (pv_move rfl) rfl ?_
    refine at_pure (pv_assign rfl) rfl ?_
    refine at_nil ?_
    refine ex_go ?_
    refine cd_ret ?_
    exact end_ret1 rfl rfl (fun w hs => ⟨by clear hs; exact congrArg (fun b => Ending.returned (.int .i64 b)) (fold_end hq (by simp at hlt; omega)).symm, hs.keep⟩)

theorem bne_t {a b : Int} (h : (a != b) = true) : (a == b) = false := by simpa using h
theorem bne_f {a b : Int} (h : (a != b) = false) : (a == b) = true := by simpa using h
def badL (l : List Q4) (id t : Int) (k : Q4) : Bool := k.2.2.1 == id && (decide (slotI l k.1 < 0) || decide (t < (at0 l (slotI l k.1).toNat).2.2.2))
def readyS (ls l : List Q4) (id t : Int) : Bool := ls.all fun k => !badL l id t k
def okNext (ls l : List Q4) (t id : Int) : Bool := decide (slotI l id < 0) && readyS ls l id t
def nextI (ls : List Q4) (order : List Int) (l : List Q4) (t : Int) : Int := (order.find? (okNext ls l t)).getD 0
theorem slot_get {l : List Q4} {i : Int} (h : decide (slotI l i < 0) = false) : (0 ≤ slotI l i ∧ slotI l i < l.length) ∧ l[(slotI l i).toNat]? = some (at0 l (slotI l i).toNat) := by
  simp only [decide_eq_false_iff_not] at h
  have := fIx_range (p := fun z : Q4 => z.1 == i) l 0
  change slotI l i = -1 ∨ (0 ≤ slotI l i ∧ slotI l i < 0 + l.length) at this
  have h2 : 0 ≤ slotI l i ∧ slotI l i < l.length := by omega
  exact ⟨h2, at0_get (by omega)⟩
theorem all_step {α : Type} {f : α → Bool} {xs : List α} {k : Nat} {z : α} (h : xs.all f = (xs.drop k).all f) (hz : xs[k]? = some z) (hf : f z = true) : xs.all f = (xs.drop (k + 1)).all f := by
  rw [h, drop_of hz, List.all_cons, hf, Bool.true_and]
theorem all_hit {α : Type} {f : α → Bool} {xs : List α} {k : Nat} {z : α} (hz : xs[k]? = some z) (hf : f z = false) : xs.all f = false := by
  rw [← Bool.not_eq_true]
  intro h
  rw [List.all_eq_true] at h
  have := h z (List.mem_of_getElem? hz)
  rw [hf] at this
  cases this
theorem all_end {α : Type} {f : α → Bool} {xs : List α} {k : Nat} (h : xs.all f = (xs.drop k).all f) (hk : xs.length ≤ k) : xs.all f = true := by rw [h, List.drop_eq_nil_of_le hk]; rfl

theorem ready_ref (a b : Option Addr) (ca cb : Nat) (ns ls : List Q4) (c : Option Addr) (cc : Nat) (l : List Q4) (id t : Int) (w : World) (hn : Sl [] enc4 4 w a ca ns) (hl : Sl [] enc4 4 w b cb ls) (hs4 : Sl [] enc4 4 w c cc l) : Calls Try.prog 45 [.agg #[.slice a ns.length ca, .slice b ls.length cb], .slice c l.length cc, .int .i64 id, .int .i64 t].toArray w (Val (.bool (readyS ls l id t)) w) := by
  refine calls_body (n := 45) Try.func45 rfl rfl rfl (St.init _ []) ?_
  refine cd_seq ?_
  refine cd_region ?_
  refine at_does (does_box rfl .agg (fun _ => .nil)) rfl (fun g1 => ?_)
  refine at_pure (pv_assign rfl) rfl ?_
  refine at_nil ?_
  refine ex_go ?_
  refine cd_seq ?_
  refine cd_seq ?_
  refine cd_region ?_
  refine at_pure (pv_assign rfl) rfl ?_
  refine at_nil ?_
  refine ex_go ?_
  refine cd_block ?_
  refine cd_loop (σ := Nat) (fun s => [(1, .slice c l.length cc), (2, .int .i64 id), (3, .int .i64 t), (4, Value.pointer (some ⟨g1, 0, none⟩)), (9, .int .i64 (s : Int))]) (fun s => [Box g1 [.slice a ns.length ca, .slice b ls.length cb] 28]) (fun s => s ≤ ls.length ∧ readyS ls l id t = (ls.drop s).all fun k => !badL l id t k) (fun s => ls.length - s) 0 ⟨Nat.zero_le _, rfl⟩ ⟨rfl, rfl, rfl, rfl, rfl, trivial⟩ (by repeat first | exact sLn _ | apply sLc | apply sLd) ?_
  rintro k ⟨hk, hq⟩
  refine cd_seq ?_
  refine cd_seq ?_
  refine cd_region ?_
  refine at_pure (pv_move rfl) rfl ?_
  refine at_pure (pv_field0 fa_28_1 rfl (r := 1) rfl) rfl ?_
  refine at_pure (by exact pv_load ld_26 rfl (box_cell .z (.s .z))) rfl ?_
  refine at_pure (pv_len Try.underlying26 rfl) rfl ?_
  refine at_pure (pv_lss rfl rfl) rfl ?_
  refine at_nil ?_
  refine ex_go ?_
  refine cd_if rfl (fun hlt => ?_) (fun hlt => ?_)
  · skip
    refine cd_skip ?_
    refine ex_go ?_
    refine cd_seq ?_
    refine cd_block ?_
    refine cd_seq ?_
    refine cd_seq ?_
    have hkl : k < ls.length := by simpa using hlt
    obtain ⟨z, hz⟩ := get_of hkl
    have hsm := hl.sm
    refine cd_region ?_
    refine at_pure (pv_field0 fa_28_1 rfl (r := 1) rfl) rfl ?_
    refine at_pure (by exact pv_load ld_26 rfl (box_cell .z (.s .z))) rfl ?_
    refine at_pure (pv_move rfl) rfl ?_
    refine at_pure (pv_ix Try.underlying26 cz_61 rfl rfl (by first | omega | (simp only [decide_eq_true_eq, decide_eq_false_iff_not] at *; omega)) hl.real (k := k) (by omega)) rfl ?_
    refine at_pure (pv_fieldAddr fa_61_2 rfl) rfl ?_
    refine at_pure (pv_elem ld_3 rfl (hl.get hz (.s (.s .z)))) rfl ?_
    refine at_pure (pv_move rfl) rfl ?_
    refine at_pure (pv_neq rfl rfl) rfl ?_
    refine at_nil ?_
    refine ex_go ?_
    refine cd_if rfl (fun hne => ?_) (fun hne => ?_)
    · have hto := bne_t hne
      refine cd_exit ?_
      refine ex_then_exit (ex_in (ex_go ?_))
      refine cd_region ?_
      refine at_pure (pv_move rfl) rfl ?_
      refine at_pure (by first | exact pv_add_n rfl rfl (by unfold In64; omega) | exact pv_add rfl rfl) rfl ?_
      refine at_pure (pv_assign rfl) rfl ?_
      refine at_nil ?_
      exact ex_meet (k + 1) ⟨⟨by omega, all_step hq hz (by simp only [badL, Bool.and_true, Bool.true_and, Bool.and_false, Bool.false_and, Bool.or_true, Bool.true_or, Bool.or_false, Bool.false_or, Bool.not_true, Bool.not_false, *])⟩, by omega⟩ ⟨rfl, rfl, rfl, rfl, rfl, trivial⟩ (by repeat first | exact sLn _ | apply sLc | apply sLd)
    · have hto := bne_f hne
      refine cd_skip ?_
      refine ex_go ?_
      refine cd_seq ?_
      refine cd_region ?_
      refine at_pure (pv_move rfl) rfl ?_
      refine at_pure (pv_field0 fa_28_1 rfl (r := 1) rfl) rfl ?_
      refine at_pure (by exact pv_load ld_26 rfl (box_cell .z (.s .z))) rfl ?_
      refine at_pure (pv_move rfl) rfl ?_
      refine at_pure (pv_ix Try.underlying26 cz_61 rfl rfl (by first | omega | (simp only [decide_eq_true_eq, decide_eq_false_iff_not] at *; omega)) hl.real (k := k) (by omega)) rfl ?_
      refine at_pure (pv_fieldAddr fa_61_0 rfl) rfl ?_
      refine at_pure (pv_elem ld_3 rfl (hl.get hz .z)) rfl ?_
      refine at_does (does_val cal44 rfl rfl rfl (fun w hs => slot_ref c cc l _ w (hs4.at' hs))) rfl (fun _ => ?_)
      refine at_pure (pv_assign rfl) rfl ?_
      refine at_nil ?_
      refine ex_go ?_
      refine cd_seq ?_
      refine cd_region ?_
      refine at_pure (pv_move rfl) rfl ?_
      refine at_pure (pv_lss rfl rfl) rfl ?_
      refine at_pure (pv_move rfl) rfl ?_
      refine at_split 36 rfl (fun hb3 => ?_) (fun hb3 => ?_)
      · skip
        refine at_skip rfl rfl hb3 rfl ?_
        refine at_skip rfl rfl hb3 rfl ?_
        refine at_skip rfl rfl hb3 rfl ?_
        refine at_skip rfl rfl hb3 rfl ?_
        refine at_skip rfl rfl hb3 rfl ?_
        refine at_skip rfl rfl hb3 rfl ?_
        refine at_skip rfl rfl hb3 rfl ?_
        refine at_pure (pv_pick_t rfl hb3 rfl) rfl ?_
        refine at_nil ?_
        refine ex_go ?_
        refine cd_then rfl rfl ?_
        refine cd_seq ?_
        refine cd_region ?_
        refine at_pure (pv_assign rfl) rfl ?_
        refine at_nil ?_
        refine ex_go ?_
        refine cd_ret ?_
        refine ex_in_ret (ex_then_ret (ex_then_ret (ex_in_ret (ex_then_ret ?_))))
        exact end_ret1 rfl rfl (fun w hs => ⟨by clear hs; refine congrArg (fun b => Ending.returned (.bool b)) ?_; first | exact (all_end hq (by simp at hlt; omega)).symm | exact (all_hit hz (by simp only [badL, Bool.and_true, Bool.true_and, Bool.and_false, Bool.false_and, Bool.or_true, Bool.true_or, Bool.or_false, Bool.false_or, Bool.not_true, Bool.not_false, *])).symm, hs.keep⟩)
      · skip
        refine at_pure_g rfl rfl hb3 (pv_move rfl) rfl ?_
        refine at_pure_g rfl rfl hb3 (pv_move rfl) rfl ?_
        refine at_pure_g rfl rfl hb3 (pv_ix Try.underlying23 cz_39 rfl rfl (slot_get (by assumption)).1 hs4.real (k := (slotI l z.1).toNat) rfl) rfl ?_
        refine at_pure_g rfl rfl hb3 (pv_fieldAddr fa_39_3 rfl) rfl ?_
        refine at_pure_g rfl rfl hb3 (pv_elem ld_3 rfl (hs4.get (slot_get (by assumption)).2 (.s (.s (.s .z))))) rfl ?_
        refine at_pure_g rfl rfl hb3 (pv_move rfl) rfl ?_
        refine at_pure_g rfl rfl hb3 (pv_gtr rfl rfl) rfl ?_
        refine at_pure (pv_pick_f rfl hb3 rfl) rfl ?_
        refine at_nil ?_
        refine ex_go ?_
        refine cd_if rfl (fun hb4 => ?_) (fun hb4 => ?_)
        · skip
          refine cd_seq ?_
          refine cd_region ?_
          refine at_pure (pv_assign rfl) rfl ?_
          refine at_nil ?_
          refine ex_go ?_
          refine cd_ret ?_
          refine ex_in_ret (ex_then_ret (ex_then_ret (ex_in_ret (ex_then_ret ?_))))
          exact end_ret1 rfl rfl (fun w hs => ⟨by clear hs; refine congrArg (fun b => Ending.returned (.bool b)) ?_; first | exact (all_end hq (by simp at hlt; omega)).symm | exact (all_hit hz (by simp only [badL, Bool.and_true, Bool.true_and, Bool.and_false, Bool.false_and, Bool.or_true, Bool.true_or, Bool.or_false, Bool.false_or, Bool.not_true, Bool.not_false, *])).symm, hs.keep⟩)
        · skip
          refine cd_skip ?_
          refine ex_in_normal (ex_go ?_)
          refine cd_region ?_
          refine at_pure (pv_move rfl) rfl ?_
          refine at_pure (by first | exact pv_add_n rfl rfl (by unfold In64; omega) | exact pv_add rfl rfl) rfl ?_
          refine at_pure (pv_assign rfl) rfl ?_
          refine at_nil ?_
          exact ex_meet (k + 1) ⟨⟨by omega, all_step hq hz (by simp only [badL, Bool.and_true, Bool.true_and, Bool.and_false, Bool.false_and, Bool.or_true, Bool.true_or, Bool.or_false, Bool.false_or, Bool.not_true, Bool.not_false, *])⟩, by omega⟩ ⟨rfl, rfl, rfl, rfl, rfl, trivial⟩ (by repeat first | exact sLn _ | apply sLc | apply sLd)
  · skip
    refine cd_exit ?_
    refine ex_then_exit (ex_then_exit (ex_in (ex_go ?_)))
    refine cd_seq ?_
    refine cd_region ?_
    refine at_pure (pv_assign rfl) rfl ?_
    refine at_nil ?_
    refine ex_go ?_
    refine cd_ret ?_
    exact end_ret1 rfl rfl (fun w hs => ⟨by clear hs; refine congrArg (fun b => Ending.returned (.bool b)) ?_; first | exact (all_end hq (by simp at hlt; omega)).symm | exact (all_hit hz (by simp only [badL, Bool.and_true, Bool.true_and, Bool.and_false, Bool.false_and, Bool.or_true, Bool.true_or, Bool.or_false, Bool.false_or, Bool.not_true, Bool.not_false, *])).symm, hs.keep⟩)

theorem find_step {α : Type} {f : α → Bool} {xs : List α} {k : Nat} {z : α} (h : xs.find? f = (xs.drop k).find? f) (hz : xs[k]? = some z) (hf : f z = false) : xs.find? f = (xs.drop (k + 1)).find? f := by
  rw [h, drop_of hz, List.find?_cons, hf]
theorem find_hit {α : Type} {f : α → Bool} {xs : List α} {k : Nat} {z : α} (h : xs.find? f = (xs.drop k).find? f) (hz : xs[k]? = some z) (hf : f z = true) : xs.find? f = some z := by
  rw [h, drop_of hz, List.find?_cons, hf]
theorem find_end {α : Type} {f : α → Bool} {xs : List α} {k : Nat} (h : xs.find? f = (xs.drop k).find? f) (hk : xs.length ≤ k) : xs.find? f = none := by rw [h, List.drop_eq_nil_of_le hk]; rfl

theorem next_ref (a b : Option Addr) (ca cb : Nat) (ns ls : List Q4) (d : Option Addr) (cd : Nat) (os : List Int) (c : Option Addr) (cc : Nat) (l : List Q4) (t : Int) (w : World) (hn : Sl [] enc4 4 w a ca ns) (hl : Sl [] enc4 4 w b cb ls) (ho : Sl [] enc1 1 w d cd os) (hs4 : Sl [] enc4 4 w c cc l) : Calls Try.prog 39 [.agg #[.slice a ns.length ca, .slice b ls.length cb], .slice d os.length cd, .slice c l.length cc, .int .i64 t].toArray w (Val (.int .i64 (nextI ls os l t)) w) := by
  refine calls_body (n := 37) Try.func39 rfl rfl rfl (St.init _ []) ?_
  refine cd_seq ?_
  refine cd_region ?_
  refine at_does (does_box rfl .agg (fun _ => .nil)) rfl (fun g1 => ?_)
  refine at_pure (pv_assign rfl) rfl ?_
  refine at_nil ?_
  refine ex_go ?_
  refine cd_seq ?_
  refine cd_seq ?_
  refine cd_region ?_
  refine at_pure (pv_assign rfl) rfl ?_
  refine at_nil ?_
  refine ex_go ?_
  refine cd_block ?_
  refine cd_loop (σ := Nat) (fun s => [(1, .slice d os.length cd), (2, .slice c l.length cc), (3, .int .i64 t), (4, Value.pointer (some ⟨g1, 0, none⟩)), (9, .int .i64 (s : Int))]) (fun s => [Box g1 [.slice a ns.length ca, .slice b ls.length cb] 28]) (fun s => s ≤ os.length ∧ os.find? (okNext ls l t) = (os.drop s).find? (okNext ls l t)) (fun s => os.length - s) 0 ⟨Nat.zero_le _, rfl⟩ ⟨rfl, rfl, rfl, rfl, rfl, trivial⟩ (by repeat first | exact sLn _ | apply sLc | apply sLd) ?_
  rintro k ⟨hk, hq⟩
  refine cd_seq ?_
  refine cd_seq ?_
  refine cd_region ?_
  refine at_pure (pv_move rfl) rfl ?_
  refine at_pure (pv_move rfl) rfl ?_
  refine at_pure (pv_len Try.underlying22 rfl) rfl ?_
  refine at_pure (pv_lss rfl rfl) rfl ?_
  refine at_nil ?_
  refine ex_go ?_
  refine cd_if rfl (fun hlt => ?_) (fun hlt => ?_)
  · skip
    refine cd_skip ?_
    refine ex_go ?_
    refine cd_seq ?_
    refine cd_block ?_
    refine cd_seq ?_
    have hkl : k < os.length := by simpa using hlt
    obtain ⟨z, hz⟩ := get_of hkl
    have hsm := ho.sm
    refine cd_draw' 17 follows ?_
    refine dr_take 0 rfl (by kernel_rfl) (.refl _) (pv_move rfl) rfl ?_
    refine dr_take 1 rfl (by kernel_rfl) (.refl _) (pv_move rfl) rfl ?_
    refine dr_take 2 rfl (by kernel_rfl) (.refl _) (pv_move rfl) rfl ?_
    refine dr_take 3 rfl (by kernel_rfl) (.refl _) (pv_ix Try.underlying22 cz_3 rfl rfl (by first | omega | (simp only [decide_eq_true_eq, decide_eq_false_iff_not] at *; omega)) ho.real (k := k) (by omega)) rfl ?_
    refine dr_take 4 rfl (by kernel_rfl) (.refl _) (pv_elem0 ld_3 rfl (ho.get hz .z)) rfl ?_
    refine dr_one 5 (by kernel_rfl) rfl ?_
    refine at_does (does_val cal44 rfl rfl rfl (fun w hs => slot_ref c cc l _ w (hs4.at' hs))) rfl (fun _ => ?_)
    refine at_nil (dr_next (fun _ => (.refl _)) ?_)
    refine dr_take 6 rfl (by kernel_rfl) (.refl _) (pv_lss rfl rfl) rfl ?_
    refine dr_take 7 rfl (by kernel_rfl) (.refl _) (pv_move rfl) rfl ?_
    refine dr_split 23 rfl (fun hb2 => ?_) (fun hb2 => ?_)
    · skip
      refine dr_take_g 8 rfl rfl rfl hb2 (by kernel_rfl) (.refl _) (by exact pv_loads_box ag_28 rfl .z (.take (.take .done))) rfl ?_
      refine dr_take_g 9 rfl rfl rfl hb2 (by kernel_rfl) (.refl _) (pv_move rfl) rfl ?_
      refine dr_take_g 10 rfl rfl rfl hb2 (by kernel_rfl) (.refl _) (pv_move rfl) rfl ?_
      refine dr_take_g 11 rfl rfl rfl hb2 (by kernel_rfl) (.refl _) (pv_move rfl) rfl ?_
      refine dr_take_g 12 rfl rfl rfl hb2 (by kernel_rfl) (.refl _) (pv_ix Try.underlying22 cz_3 rfl rfl (by first | omega | (simp only [decide_eq_true_eq, decide_eq_false_iff_not] at *; omega)) ho.real (k := k) (by omega)) rfl ?_
      refine dr_take_g 13 rfl rfl rfl hb2 (by kernel_rfl) (.refl _) (pv_elem0 ld_3 rfl (ho.get hz .z)) rfl ?_
      refine dr_take_g 14 rfl rfl rfl hb2 (by kernel_rfl) (.refl _) (pv_move rfl) rfl ?_
      refine dr_one 15 (by kernel_rfl) rfl ?_
      refine at_does_g rfl rfl hb2 (does_val cal45 rfl rfl rfl (fun w hs => ready_ref a b ca cb ns ls c cc l _ _ w (hn.at' hs) (hl.at' hs) (hs4.at' hs))) rfl (fun _ => ?_)
      refine at_nil (dr_next (fun _ => (.refl _)) ?_)
      refine dr_take 16 rfl (by kernel_rfl) (.refl _) (pv_pick_t rfl hb2 rfl) rfl ?_
      refine dr_done (by kernel_rfl) ?_
      refine ex_go ?_
      refine cd_if rfl (fun hb3 => ?_) (fun hb3 => ?_)
      · skip
        refine cd_seq ?_
        refine cd_region ?_
        refine at_pure (pv_move rfl) rfl ?_
        refine at_pure (pv_move rfl) rfl ?_
        refine at_pure (pv_ix Try.underlying22 cz_3 rfl rfl (by first | omega | (simp only [decide_eq_true_eq, decide_eq_false_iff_not] at *; omega)) ho.real (k := k) (by omega)) rfl ?_
        refine at_pure (pv_elem0 ld_3 rfl (ho.get hz .z)) rfl ?_
        refine at_pure (pv_assign rfl) rfl ?_
        refine at_nil ?_
        refine ex_go ?_
        refine cd_ret ?_
        refine ex_in_ret (ex_then_ret (ex_then_ret (ex_in_ret (ex_then_ret ?_))))
        exact end_ret1 rfl rfl (fun w hs => ⟨by clear hs; refine congrArg (fun b => Ending.returned (.int .i64 b)) ?_; unfold nextI; first | (rw [find_hit hq hz (by simp only [okNext, Bool.and_true, Bool.true_and, Bool.and_false, Bool.false_and, *])]; rfl) | (rw [find_end hq (by simp at hlt; omega)]; rfl), hs.keep⟩)
      · skip
        refine cd_skip ?_
        refine ex_in_normal (ex_go ?_)
        refine cd_region ?_
        refine at_pure (pv_move rfl) rfl ?_
        refine at_pure (by first | exact pv_add_n rfl rfl (by unfold In64; omega) | exact pv_add rfl rfl) rfl ?_
        refine at_pure (pv_assign rfl) rfl ?_
        refine at_nil ?_
        exact ex_meet (k + 1) ⟨⟨by omega, find_step hq hz (by simp only [okNext, Bool.and_true, Bool.true_and, Bool.and_false, Bool.false_and, *])⟩, by omega⟩ ⟨rfl, rfl, rfl, rfl, rfl, trivial⟩ (by repeat first | exact sLn _ | apply sLc | apply sLd)
    · skip
      refine dr_skip 8 rfl rfl rfl hb2 (by kernel_rfl) (.refl _) rfl ?_
      refine dr_skip 9 rfl rfl rfl hb2 (by kernel_rfl) (.refl _) rfl ?_
      refine dr_skip 10 rfl rfl rfl hb2 (by kernel_rfl) (.refl _) rfl ?_
      refine dr_skip 11 rfl rfl rfl hb2 (by kernel_rfl) (.refl _) rfl ?_
      refine dr_skip 12 rfl rfl rfl hb2 (by kernel_rfl) (.refl _) rfl ?_
      refine dr_skip 13 rfl rfl rfl hb2 (by kernel_rfl) (.refl _) rfl ?_
      refine dr_skip 14 rfl rfl rfl hb2 (by kernel_rfl) (.refl _) rfl ?_
      refine dr_skip 15 rfl rfl rfl hb2 (by kernel_rfl) (.refl _) rfl ?_
      refine dr_take 16 rfl (by kernel_rfl) (.refl _) (pv_pick_f rfl hb2 rfl) rfl ?_
      refine dr_done (by kernel_rfl) ?_
      refine ex_go ?_
      refine cd_else rfl rfl ?_
      refine cd_skip ?_
      refine ex_in_normal (ex_go ?_)
      refine cd_region ?_
      refine at_pure (pv_move rfl) rfl ?_
      refine at_pure (by first | exact pv_add_n rfl rfl (by unfold In64; omega) | exact pv_add rfl rfl) rfl ?_
      refine at_pure (pv_assign rfl) rfl ?_
      refine at_nil ?_
      exact ex_meet (k + 1) ⟨⟨by omega, find_step hq hz (by simp only [okNext, Bool.and_true, Bool.true_and, Bool.and_false, Bool.false_and, *])⟩, by omega⟩ ⟨rfl, rfl, rfl, rfl, rfl, trivial⟩ (by repeat first | exact sLn _ | apply sLc | apply sLd)
  · skip
    refine cd_exit ?_
    refine ex_then_exit (ex_then_exit (ex_in (ex_go ?_)))
    refine cd_seq ?_
    refine cd_region ?_
    refine at_pure (pv_assign rfl) rfl ?_
    refine at_nil ?_
    refine ex_go ?_
    refine cd_ret ?_
    exact end_ret1 rfl rfl (fun w hs => ⟨by clear hs; refine congrArg (fun b => Ending.returned (.int .i64 b)) ?_; unfold nextI; first | (rw [find_hit hq hz (by simp only [okNext, Bool.and_true, Bool.true_and, Bool.and_false, Bool.false_and, *])]; rfl) | (rw [find_end hq (by simp at hlt; omega)]; rfl), hs.keep⟩)

def costB (x : Int) : Bool := decide (0 ≤ x) && decide (x ≤ 1099511627776)
def problemS (ns ls : List Q4) (cs : List Int) (wk : Int) : Bool := validS ns ls && ((cs.length : Int) == (ns.length : Int)) && decide (1 ≤ wk) && decide (wk ≤ 8) && cs.all costB
theorem prob_no {ns ls : List Q4} {cs : List Int} {wk : Int} (h : validS ns ls = false ∨ ((cs.length : Int) == (ns.length : Int)) = false ∨ wk < 1 ∨ 8 < wk ∨ cs.all costB = false) : problemS ns ls cs wk = false := by
  unfold problemS
  rcases h with h | h | h | h | h
  · rw [h]; simp
  · rw [h]; simp
  · rw [decide_eq_false (show ¬ 1 ≤ wk by omega)]; simp
  · rw [decide_eq_false (show ¬ wk ≤ 8 by omega)]; simp
  · rw [h]; simp
theorem prob_yes {ns ls : List Q4} {cs : List Int} {wk : Int} (h1 : validS ns ls = true) (h2 : ((cs.length : Int) == (ns.length : Int)) = true) (h3 : 1 ≤ wk) (h4 : wk ≤ 8) (h5 : cs.all costB = true) : problemS ns ls cs wk = true := by
  unfold problemS
  rw [h1, h2, h5, decide_eq_true h3, decide_eq_true h4]; rfl
theorem costB_of {x : Int} (h1 : decide (x < 0) = false) (h2 : decide (1099511627776 < x) = false) : costB x = true := by
  simp at h1 h2
  unfold costB
  rw [decide_eq_true h1, decide_eq_true h2]; rfl
theorem costB_no {x : Int} (h : x < 0 ∨ 1099511627776 < x) : costB x = false := by
  unfold costB
  rcases h with h | h
  · rw [decide_eq_false (show ¬ 0 ≤ x by omega)]; rfl
  · rw [decide_eq_false (show ¬ x ≤ 1099511627776 by omega), Bool.and_false]

theorem problem_ref (a b : Option Addr) (ca cb : Nat) (ns ls : List Q4) (c : Option Addr) (cc : Nat) (cs : List Int) (wk : Int) (w : World) (hn : Sl [] enc4 4 w a ca ns) (hl : Sl [] enc4 4 w b cb ls) (hc : Sl [] enc1 1 w c cc cs) : Calls Try.prog 37 [.agg #[.slice a ns.length ca, .slice b ls.length cb], .slice c cs.length cc, .int .i64 wk].toArray w (Val (.bool (problemS ns ls cs wk)) w) := by
  refine calls_body (n := 45) Try.func37 rfl rfl rfl (St.init _ []) ?_
  refine cd_seq ?_
  refine cd_region ?_
  refine at_does (does_box rfl .agg (fun _ => .nil)) rfl (fun g1 => ?_)
  refine at_pure (pv_assign rfl) rfl ?_
  refine at_nil ?_
  refine ex_go ?_
  refine cd_seq ?_
  refine cd_seq ?_
  refine cd_region ?_
  refine at_pure (by exact pv_loads_box ag_28 rfl .z (.take (.take .done))) rfl ?_
  refine at_does (does_val cal58 rfl rfl rfl (fun w hs => valid_ref _ _ _ _ _ _ w (hn.at' hs) (hl.at' hs))) rfl (fun _ => ?_)
  refine at_pure (pv_not rfl) rfl ?_
  refine at_pure (pv_move rfl) rfl ?_
  refine at_split 11 rfl (fun hb1 => ?_) (fun hb1 => ?_)
  · skip
    refine at_skip rfl rfl hb1 rfl ?_
    refine at_skip rfl rfl hb1 rfl ?_
    refine at_skip rfl rfl hb1 rfl ?_
    refine at_skip rfl rfl hb1 rfl ?_
    refine at_skip rfl rfl hb1 rfl ?_
    refine at_skip rfl rfl hb1 rfl ?_
    refine at_pure (pv_pick_t rfl hb1 rfl) rfl ?_
    refine at_pure (pv_move rfl) rfl ?_
    refine at_skip rfl rfl rfl rfl ?_
    refine at_skip rfl rfl rfl rfl ?_
    refine at_pure (pv_pick_t rfl rfl rfl) rfl ?_
    refine at_pure (pv_move rfl) rfl ?_
    refine at_skip rfl rfl rfl rfl ?_
    refine at_skip rfl rfl rfl rfl ?_
    refine at_pure (pv_pick_t rfl rfl rfl) rfl ?_
    refine at_nil ?_
    refine ex_go ?_
    refine cd_then rfl rfl ?_
    refine cd_seq ?_
    refine cd_region ?_
    refine at_pure (pv_assign rfl) rfl ?_
    refine at_nil ?_
    refine ex_go ?_
    refine cd_ret ?_
    refine ex_then_ret ?_
    exact end_ret1 rfl rfl (fun w hs => ⟨by clear hs; refine congrArg (fun b => Ending.returned (.bool b)) ?_; first | exact (prob_yes q1 q2 q3 q4 (all_end hq (by simp at hlt; omega))).symm | exact (prob_no (.inl (by simpa using hb1))).symm | exact (prob_no (.inr (.inl (bne_t hb2)))).symm | exact (prob_no (.inr (.inr (.inl (by simpa using hb3))))).symm | exact (prob_no (.inr (.inr (.inr (.inl (by simpa using hb4)))))).symm | exact (prob_no (.inr (.inr (.inr (.inr (all_hit hz (costB_no (by simp only [decide_eq_true_eq] at *; omega)))))))).symm, hs.keep⟩)
  · skip
    refine at_pure_g rfl rfl hb1 (pv_move rfl) rfl ?_
    refine at_pure_g rfl rfl hb1 (pv_len Try.underlying22 rfl) rfl ?_
    refine at_pure_g rfl rfl hb1 (pv_field0 fa_28_0 rfl (r := 0) rfl) rfl ?_
    refine at_pure_g rfl rfl hb1 (by exact pv_load ld_25 rfl (box_cell .z .z)) rfl ?_
    refine at_pure_g rfl rfl hb1 (pv_len Try.underlying25 rfl) rfl ?_
    refine at_pure_g rfl rfl hb1 (pv_neq rfl rfl) rfl ?_
    refine at_pure (pv_pick_f rfl hb1 rfl) rfl ?_
    refine at_pure (pv_move rfl) rfl ?_
    refine at_split 19 rfl (fun hb2 => ?_) (fun hb2 => ?_)
    · skip
      refine at_skip rfl rfl hb2 rfl ?_
      refine at_skip rfl rfl hb2 rfl ?_
      refine at_pure (pv_pick_t rfl hb2 rfl) rfl ?_
      refine at_pure (pv_move rfl) rfl ?_
      refine at_skip rfl rfl rfl rfl ?_
      refine at_skip rfl rfl rfl rfl ?_
      refine at_pure (pv_pick_t rfl rfl rfl) rfl ?_
      refine at_nil ?_
      refine ex_go ?_
      refine cd_then rfl rfl ?_
      refine cd_seq ?_
      refine cd_region ?_
      refine at_pure (pv_assign rfl) rfl ?_
      refine at_nil ?_
      refine ex_go ?_
      refine cd_ret ?_
      refine ex_then_ret ?_
      exact end_ret1 rfl rfl (fun w hs => ⟨by clear hs; refine congrArg (fun b => Ending.returned (.bool b)) ?_; first | exact (prob_yes q1 q2 q3 q4 (all_end hq (by simp at hlt; omega))).symm | exact (prob_no (.inl (by simpa using hb1))).symm | exact (prob_no (.inr (.inl (bne_t hb2)))).symm | exact (prob_no (.inr (.inr (.inl (by simpa using hb3))))).symm | exact (prob_no (.inr (.inr (.inr (.inl (by simpa using hb4)))))).symm | exact (prob_no (.inr (.inr (.inr (.inr (all_hit hz (costB_no (by simp only [decide_eq_true_eq] at *; omega)))))))).symm, hs.keep⟩)
    · skip
      refine at_pure_g rfl rfl hb2 (pv_move rfl) rfl ?_
      refine at_pure_g rfl rfl hb2 (pv_lss rfl rfl) rfl ?_
      refine at_pure (pv_pick_f rfl hb2 rfl) rfl ?_
      refine at_pure (pv_move rfl) rfl ?_
      refine at_split 23 rfl (fun hb3 => ?_) (fun hb3 => ?_)
      · skip
        refine at_skip rfl rfl hb3 rfl ?_
        refine at_skip rfl rfl hb3 rfl ?_
        refine at_pure (pv_pick_t rfl hb3 rfl) rfl ?_
        refine at_nil ?_
        refine ex_go ?_
        refine cd_then rfl rfl ?_
        refine cd_seq ?_
        refine cd_region ?_
        refine at_pure (pv_assign rfl) rfl ?_
        refine at_nil ?_
        refine ex_go ?_
        refine cd_ret ?_
        refine ex_then_ret ?_
        exact end_ret1 rfl rfl (fun w hs => ⟨by clear hs; refine congrArg (fun b => Ending.returned (.bool b)) ?_; first | exact (prob_yes q1 q2 q3 q4 (all_end hq (by simp at hlt; omega))).symm | exact (prob_no (.inl (by simpa using hb1))).symm | exact (prob_no (.inr (.inl (bne_t hb2)))).symm | exact (prob_no (.inr (.inr (.inl (by simpa using hb3))))).symm | exact (prob_no (.inr (.inr (.inr (.inl (by simpa using hb4)))))).symm | exact (prob_no (.inr (.inr (.inr (.inr (all_hit hz (costB_no (by simp only [decide_eq_true_eq] at *; omega)))))))).symm, hs.keep⟩)
      · skip
        refine at_pure_g rfl rfl hb3 (pv_move rfl) rfl ?_
        refine at_pure_g rfl rfl hb3 (pv_gtr rfl rfl) rfl ?_
        refine at_pure (pv_pick_f rfl hb3 rfl) rfl ?_
        refine at_nil ?_
        refine ex_go ?_
        refine cd_if rfl (fun hb4 => ?_) (fun hb4 => ?_)
        · skip
          refine cd_seq ?_
          refine cd_region ?_
          refine at_pure (pv_assign rfl) rfl ?_
          refine at_nil ?_
          refine ex_go ?_
          refine cd_ret ?_
          refine ex_then_ret ?_
          exact end_ret1 rfl rfl (fun w hs => ⟨by clear hs; refine congrArg (fun b => Ending.returned (.bool b)) ?_; first | exact (prob_yes q1 q2 q3 q4 (all_end hq (by simp at hlt; omega))).symm | exact (prob_no (.inl (by simpa using hb1))).symm | exact (prob_no (.inr (.inl (bne_t hb2)))).symm | exact (prob_no (.inr (.inr (.inl (by simpa using hb3))))).symm | exact (prob_no (.inr (.inr (.inr (.inl (by simpa using hb4)))))).symm | exact (prob_no (.inr (.inr (.inr (.inr (all_hit hz (costB_no (by simp only [decide_eq_true_eq] at *; omega)))))))).symm, hs.keep⟩)
        · skip
          refine cd_skip ?_
          refine ex_go ?_
          refine cd_seq ?_
          refine cd_seq ?_
          have q1 : validS ns ls = true := by simpa using hb1
          have q2 : ((cs.length : Int) == (ns.length : Int)) = true := bne_f hb2
          have q3 : 1 ≤ wk := by simpa using hb3
          have q4 : wk ≤ 8 := by simpa using hb4
          clear hb1 hb2 hb3 hb4
          refine cd_region ?_
          refine at_pure (pv_assign rfl) rfl ?_
          refine at_nil ?_
          refine ex_go ?_
          refine cd_block ?_
          refine cd_loop (σ := Nat) (fun s => [(1, .slice c cs.length cc), (7, .int .i64 (s : Int))]) (fun s => []) (fun s => s ≤ cs.length ∧ cs.all costB = (cs.drop s).all costB) (fun s => cs.length - s) 0 ⟨Nat.zero_le _, rfl⟩ ⟨rfl, rfl, trivial⟩ (by repeat first | exact sLn _ | apply sLc | apply sLd) ?_
          rintro k ⟨hk, hq⟩
          refine cd_seq ?_
          refine cd_seq ?_
          refine cd_region ?_
          refine at_pure (pv_move rfl) rfl ?_
          refine at_pure (pv_move rfl) rfl ?_
          refine at_pure (pv_len Try.underlying22 rfl) rfl ?_
          refine at_pure (pv_lss rfl rfl) rfl ?_
          refine at_nil ?_
          refine ex_go ?_
          refine cd_if rfl (fun hlt => ?_) (fun hlt => ?_)
          · skip
            refine cd_skip ?_
            refine ex_go ?_
            refine cd_seq ?_
            refine cd_block ?_
            refine cd_seq ?_
            have hkl : k < cs.length := by simpa using hlt
            obtain ⟨z, hz⟩ := get_of hkl
            have hsm := hc.sm
            refine cd_region ?_
            refine at_pure (pv_move rfl) rfl ?_
            refine at_pure (pv_move rfl) rfl ?_
            refine at_pure (pv_ix Try.underlying22 cz_3 rfl rfl (by first | omega | (simp only [decide_eq_true_eq, decide_eq_false_iff_not] at *; omega)) hc.real (k := k) (by omega)) rfl ?_
            refine at_pure (pv_elem0 ld_3 rfl (hc.get hz .z)) rfl ?_
            refine at_pure (pv_lss rfl rfl) rfl ?_
            refine at_pure (pv_move rfl) rfl ?_
            refine at_split 38 rfl (fun hb6 => ?_) (fun hb6 => ?_)
            · skip
              refine at_skip rfl rfl hb6 rfl ?_
              refine at_skip rfl rfl hb6 rfl ?_
              refine at_skip rfl rfl hb6 rfl ?_
              refine at_skip rfl rfl hb6 rfl ?_
              refine at_skip rfl rfl hb6 rfl ?_
              refine at_pure (pv_pick_t rfl hb6 rfl) rfl ?_
              refine at_nil ?_
              refine ex_go ?_
              refine cd_then rfl rfl ?_
              refine cd_seq ?_
              refine cd_region ?_
              refine at_pure (pv_assign rfl) rfl ?_
              refine at_nil ?_
              refine ex_go ?_
              refine cd_ret ?_
              refine ex_in_ret (ex_then_ret (ex_then_ret (ex_in_ret (ex_then_ret ?_))))
              exact end_ret1 rfl rfl (fun w hs => ⟨by clear hs; refine congrArg (fun b => Ending.returned (.bool b)) ?_; first | exact (prob_yes q1 q2 q3 q4 (all_end hq (by simp at hlt; omega))).symm | exact (prob_no (.inl (by simpa using hb1))).symm | exact (prob_no (.inr (.inl (bne_t hb2)))).symm | exact (prob_no (.inr (.inr (.inl (by simpa using hb3))))).symm | exact (prob_no (.inr (.inr (.inr (.inl (by simpa using hb4)))))).symm | exact (prob_no (.inr (.inr (.inr (.inr (all_hit hz (costB_no (by simp only [decide_eq_true_eq] at *; omega)))))))).symm, hs.keep⟩)
            · skip
              refine at_pure_g rfl rfl hb6 (pv_move rfl) rfl ?_
              refine at_pure_g rfl rfl hb6 (pv_move rfl) rfl ?_
              refine at_pure_g rfl rfl hb6 (pv_ix Try.underlying22 cz_3 rfl rfl (by first | omega | (simp only [decide_eq_true_eq, decide_eq_false_iff_not] at *; omega)) hc.real (k := k) (by omega)) rfl ?_
              refine at_pure_g rfl rfl hb6 (pv_elem0 ld_3 rfl (hc.get hz .z)) rfl ?_
              refine at_pure_g rfl rfl hb6 (pv_gtr rfl rfl) rfl ?_
              refine at_pure (pv_pick_f rfl hb6 rfl) rfl ?_
              refine at_nil ?_
              refine ex_go ?_
              refine cd_if rfl (fun hb7 => ?_) (fun hb7 => ?_)
              · skip
                refine cd_seq ?_
                refine cd_region ?_
                refine at_pure (pv_assign rfl) rfl ?_
                refine at_nil ?_
                refine ex_go ?_
                refine cd_ret ?_
                refine ex_in_ret (ex_then_ret (ex_then_ret (ex_in_ret (ex_then_ret ?_))))
                exact end_ret1 rfl rfl (fun w hs => ⟨by clear hs; refine congrArg (fun b => Ending.returned (.bool b)) ?_; first | exact (prob_yes q1 q2 q3 q4 (all_end hq (by simp at hlt; omega))).symm | exact (prob_no (.inl (by simpa using hb1))).symm | exact (prob_no (.inr (.inl (bne_t hb2)))).symm | exact (prob_no (.inr (.inr (.inl (by simpa using hb3))))).symm | exact (prob_no (.inr (.inr (.inr (.inl (by simpa using hb4)))))).symm | exact (prob_no (.inr (.inr (.inr (.inr (all_hit hz (costB_no (by simp only [decide_eq_true_eq] at *; omega)))))))).symm, hs.keep⟩)
              · skip
                refine cd_skip ?_
                refine ex_in_normal (ex_go ?_)
                refine cd_region ?_
                refine at_pure (pv_move rfl) rfl ?_
                refine at_pure (by first | exact pv_add_n rfl rfl (by unfold In64; omega) | exact pv_add rfl rfl) rfl ?_
                refine at_pure (pv_assign rfl) rfl ?_
                refine at_nil ?_
                exact ex_meet (k + 1) ⟨⟨by omega, all_step hq hz (costB_of (by assumption) (by assumption))⟩, by omega⟩ ⟨rfl, rfl, trivial⟩ (by repeat first | exact sLn _ | apply sLc | apply sLd)
          · skip
            refine cd_exit ?_
            refine ex_then_exit (ex_then_exit (ex_in (ex_go ?_)))
            refine cd_seq ?_
            refine cd_region ?_
            refine at_pure (pv_assign rfl) rfl ?_
            refine at_nil ?_
            refine ex_go ?_
            refine cd_ret ?_
            exact end_ret1 rfl rfl (fun w hs => ⟨by clear hs; refine congrArg (fun b => Ending.returned (.bool b)) ?_; first | exact (prob_yes q1 q2 q3 q4 (all_end hq (by simp at hlt; omega))).symm | exact (prob_no (.inl (by simpa using hb1))).symm | exact (prob_no (.inr (.inl (bne_t hb2)))).symm | exact (prob_no (.inr (.inr (.inl (by simpa using hb3))))).symm | exact (prob_no (.inr (.inr (.inr (.inl (by simpa using hb4)))))).symm | exact (prob_no (.inr (.inr (.inr (.inr (all_hit hz (costB_no (by simp only [decide_eq_true_eq] at *; omega)))))))).symm, hs.keep⟩)

theorem same_cells (x : Q4) : eqCells (enc4 x) (enc4 x) = true := eqCells_self _

theorem same_ref (c d : Option Addr) (cc cd : Nat) (l : List Q4) (w : World) (h1 : Sl [] enc4 4 w c cc l) (h2 : Sl [] enc4 4 w d cd l) : Calls Try.prog 27 [.slice c l.length cc, .slice d l.length cd].toArray w (Val (.bool true) w) := by
  refine calls_body (n := 26) Try.func27 rfl rfl rfl (St.init _ []) ?_
  refine cd_seq ?_
  refine cd_region ?_
  refine at_pure (pv_assign rfl) rfl ?_
  refine at_nil ?_
  refine ex_go ?_
  refine cd_seq ?_
  refine cd_seq ?_
  refine cd_region ?_
  refine at_pure (pv_move rfl) rfl ?_
  refine at_pure (pv_len Try.underlying23 rfl) rfl ?_
  refine at_pure (pv_move rfl) rfl ?_
  refine at_pure (pv_len Try.underlying23 rfl) rfl ?_
  refine at_pure (pv_neq_same rfl rfl) rfl ?_
  refine at_nil ?_
  refine ex_go ?_
  refine cd_else rfl rfl ?_
  refine cd_skip ?_
  refine ex_go ?_
  refine cd_seq ?_
  refine cd_seq ?_
  refine cd_region ?_
  refine at_pure (pv_assign rfl) rfl ?_
  refine at_nil ?_
  refine ex_go ?_
  refine cd_block ?_
  refine cd_loop (σ := Nat) (fun s => [(0, .slice c l.length cc), (1, .slice d l.length cd), (5, .int .i64 (s : Int))]) (fun s => []) (fun s => s ≤ l.length) (fun s => l.length - s) 0 (Nat.zero_le _) ⟨rfl, rfl, rfl, trivial⟩ (by repeat first | exact sLn _ | apply sLc | apply sLd) ?_
  rintro k hk
  refine cd_seq ?_
  refine cd_seq ?_
  refine cd_region ?_
  refine at_pure (pv_move rfl) rfl ?_
  refine at_pure (pv_move rfl) rfl ?_
  refine at_pure (pv_len Try.underlying23 rfl) rfl ?_
  refine at_pure (pv_lss rfl rfl) rfl ?_
  refine at_nil ?_
  refine ex_go ?_
  refine cd_if rfl (fun hlt => ?_) (fun hlt => ?_)
  · skip
    refine cd_skip ?_
    refine ex_go ?_
    refine cd_seq ?_
    refine cd_block ?_
    refine cd_seq ?_
    have hkl : k < l.length := by simpa using hlt
    obtain ⟨z, hz⟩ := get_of hkl
    have hsm := h1.sm
    refine cd_draw' 9 follows ?_
    refine dr_take 0 rfl (by kernel_rfl) (.refl _) (pv_move rfl) rfl ?_
    refine dr_take 1 rfl (by kernel_rfl) (.refl _) (pv_move rfl) rfl ?_
    refine dr_take 2 rfl (by kernel_rfl) (.refl _) (pv_ix Try.underlying23 cz_39 rfl rfl (by first | omega | (simp only [decide_eq_true_eq, decide_eq_false_iff_not] at *; omega)) h1.real (k := k) (by omega)) rfl ?_
    refine dr_take 3 rfl (by kernel_rfl) (.refl _) (pv_elems ag_39 rfl (h1.gets hz) rfl) rfl ?_
    refine dr_take 4 rfl (by kernel_rfl) (.refl _) (pv_move rfl) rfl ?_
    refine dr_take 5 rfl (by kernel_rfl) (.refl _) (pv_move rfl) rfl ?_
    refine dr_take 6 rfl (by kernel_rfl) (.refl _) (pv_ix Try.underlying23 cz_39 rfl rfl (by first | omega | (simp only [decide_eq_true_eq, decide_eq_false_iff_not] at *; omega)) h2.real (k := k) (by omega)) rfl ?_
    refine dr_take 7 rfl (by kernel_rfl) (.refl _) (pv_elems ag_39 rfl (h2.gets hz) rfl) rfl ?_
    refine dr_take 8 rfl (by kernel_rfl) (.refl _) (pv_neqls_same sb_39 rfl rfl rfl) rfl ?_
    refine dr_done (by kernel_rfl) ?_
    refine ex_go ?_
    refine cd_else rfl rfl ?_
    refine cd_skip ?_
    refine ex_in_normal (ex_go ?_)
    refine cd_region ?_
    refine at_pure (pv_move rfl) rfl ?_
    refine at_pure (by first | exact pv_add_n rfl rfl (by unfold In64; omega) | exact pv_add rfl rfl) rfl ?_
    refine at_pure (pv_assign rfl) rfl ?_
    refine at_nil ?_
    exact ex_meet (k + 1) ⟨by omega, by omega⟩ ⟨rfl, rfl, rfl, trivial⟩ (by repeat first | exact sLn _ | apply sLc | apply sLd)
  · skip
    refine cd_exit ?_
    refine ex_then_exit (ex_then_exit (ex_in (ex_go ?_)))
    refine cd_seq ?_
    refine cd_region ?_
    refine at_pure (pv_assign rfl) rfl ?_
    refine at_nil ?_
    refine ex_go ?_
    refine cd_ret ?_
    exact end_ret1 rfl rfl (fun w hs => Val.mk hs)

theorem place_law (a b : Option Addr) (ca cb : Nat) (ns ls : List Q4) (i : Int) (w : World) (hn : Sl [] enc4 4 w a ca ns) (hl : Sl [] enc4 4 w b cb ls) : Calls Try.prog 26 [.agg #[.slice a ns.length ca, .slice b ls.length cb], .int .i64 i].toArray w (Val (.int .i64 (if placeI ns i < 0 then 0 else placeI ns i)) w) := by
  refine calls_body (n := 22) Try.func26 rfl rfl rfl (St.init _ []) ?_
  refine cd_seq ?_
  refine cd_region ?_
  refine at_does (does_box rfl .agg (fun _ => .nil)) rfl (fun g1 => ?_)
  refine at_pure (pv_assign rfl) rfl ?_
  refine at_nil ?_
  refine ex_go ?_
  refine cd_seq ?_
  refine cd_seq ?_
  refine cd_region ?_
  refine at_pure (pv_field0 fa_28_0 rfl (r := 0) rfl) rfl ?_
  refine at_pure (by exact pv_load ld_25 rfl (box_cell .z .z)) rfl ?_
  refine at_pure (pv_len Try.underlying25 rfl) rfl ?_
  refine at_pure (pv_move rfl) rfl ?_
  refine at_nil ?_
  refine ex_go ?_
  refine cd_block ?_
  refine cd_loop (σ := Nat) (fun s => [(1, .int .i64 i), (2, Value.pointer (some ⟨g1, 0, none⟩)), (8, .int .i64 ns.length), (9, .int .i64 (s : Int))]) (fun s => [Box g1 [.slice a ns.length ca, .slice b ls.length cb] 28]) (fun s => s ≤ ns.length ∧ fIx (fun z => z.1 == i) ns 0 = fIx (fun z => z.1 == i) (ns.drop s) (s : Int)) (fun s => ns.length - s) 0 ⟨Nat.zero_le _, rfl⟩ ⟨rfl, rfl, rfl, rfl, trivial⟩ (by repeat first | exact sLn _ | apply sLc | apply sLd) ?_
  rintro k ⟨hk, hq⟩
  refine cd_seq ?_
  refine cd_region ?_
  refine at_pure (pv_lss rfl rfl) rfl ?_
  refine at_nil ?_
  refine ex_go ?_
  refine cd_seq ?_
  refine cd_if rfl (fun hlt => ?_) (fun hlt => ?_)
  · skip
    refine cd_skip ?_
    refine ex_go ?_
    refine cd_seq ?_
    refine cd_block ?_
    refine cd_seq ?_
    have hkl : k < ns.length := by simpa using hlt
    obtain ⟨z, hz⟩ := get_of hkl
    have hsm := hn.sm
    refine cd_region ?_
    refine at_pure (pv_move rfl) rfl ?_
    refine at_pure (pv_assign rfl) rfl ?_
    refine at_nil ?_
    refine ex_go ?_
    refine cd_seq ?_
    refine cd_region ?_
    refine at_pure (pv_field0 fa_28_0 rfl (r := 0) rfl) rfl ?_
    refine at_pure (by exact pv_load ld_25 rfl (box_cell .z .z)) rfl ?_
    refine at_pure (pv_move rfl) rfl ?_
    refine at_pure (pv_ix Try.underlying25 cz_70 rfl rfl (by first | omega | (simp only [decide_eq_true_eq, decide_eq_false_iff_not] at *; omega)) hn.real (k := k) (by omega)) rfl ?_
    refine at_pure (pv_fieldAddr fa_70_0 rfl) rfl ?_
    refine at_pure (pv_elem ld_3 rfl (hn.get hz .z)) rfl ?_
    refine at_pure (pv_move rfl) rfl ?_
    refine at_pure (pv_eql rfl rfl) rfl ?_
    refine at_nil ?_
    refine ex_go ?_
    refine cd_if rfl (fun hf => ?_) (fun hf => ?_)
    · skip
      refine cd_seq ?_
      refine cd_region ?_
      refine at_pure (pv_move rfl) rfl ?_
      refine at_pure (pv_assign rfl) rfl ?_
      refine at_nil ?_
      refine ex_go ?_
      refine cd_ret ?_
      refine ex_in_ret (ex_then_ret (ex_then_ret (ex_in_ret (ex_then_ret ?_))))
      exact end_ret1 rfl rfl (fun w hs => ⟨by clear hs; refine congrArg (fun b => Ending.returned (.int .i64 b)) ?_; unfold placeI; first | (rw [fIx_hit hq hz hf, if_neg (by omega)]; done) | (rw [fIx_end hq (by simp at hlt; omega)]; rfl), hs.keep⟩)
    · skip
      refine cd_skip ?_
      refine ex_in_normal (ex_go ?_)
      refine cd_region ?_
      refine at_pure (by first | exact pv_add_n rfl rfl (by unfold In64; omega) | exact pv_add rfl rfl) rfl ?_
      refine at_pure (pv_move rfl) rfl ?_
      refine at_nil ?_
      exact ex_meet (k + 1) ⟨⟨by omega, fIx_step hq hz hf⟩, by omega⟩ ⟨rfl, rfl, rfl, rfl, trivial⟩ (by repeat first | exact sLn _ | apply sLc | apply sLd)
  · skip
    refine cd_exit ?_
    refine ex_then_exit (ex_then_exit (ex_in (ex_go ?_)))
    refine cd_seq ?_
    refine cd_region ?_
    refine at_pure (pv_assign rfl) rfl ?_
    refine at_nil ?_
    refine ex_go ?_
    refine cd_ret ?_
    exact end_ret1 rfl rfl (fun w hs => ⟨by clear hs; refine congrArg (fun b => Ending.returned (.int .i64 b)) ?_; unfold placeI; first | (rw [fIx_hit hq hz hf, if_neg (by omega)]; done) | (rw [fIx_end hq (by simp at hlt; omega)]; rfl), hs.keep⟩)

end Go.Proofs.Ytkejdfnpbkdllaa
