/- DuckQuanta, the plain law: the program and the reference tell the same number of quanta; conditions: a list of fewer than 2^44 numbers. -/
import Derived.Test.YtaflnbnikabeaaaPDuckQuantax7
namespace Go.Proofs.Ytaflnbnikabeaaa.Pure
open Go.RowKit Go.Proofs.Ytaflnbnikabeaaa.PDuckQuanta Go.Proofs.YtaflnbnikabeaaaW.PrintWords Go.Proofs.YtaflnbnikabeaaaW.PrintLast
set_option linter.unusedVariables false
set_option linter.unusedSimpArgs false

theorem wf_i64' {a : Int} (h : (Lit.int .i64 a).wf = true) : -9223372036854775808 ≤ a ∧ a ≤ 9223372036854775807 := by
  simpa [Lit.wf, IntKind.min, IntKind.max, IntKind.signed, IntKind.bits] using h

theorem mod_eq (v n : Int) (hn : 0 < n) (hb : n ≤ 4611686018427387904) : soundservicemill_Mod.f v n = some (v % n) := by
  unfold soundservicemill_Mod.f
  rw [if_neg (by omega)]
  have e : Int.tmod v n = if 0 ≤ v ∨ n ∣ v then v % n else v % n - n := by
    have := Int.tmod_eq_emod (a := v) (b := n)
    rw [this]; split <;> omega
  have h2 := Int.emod_nonneg v (show n ≠ 0 by omega)
  have h3 := Int.emod_lt_of_pos v hn
  by_cases c : 0 ≤ v ∨ n ∣ v
  · rw [if_pos c] at e
    rw [e, if_neg (by omega)]
  · rw [if_neg c] at e
    rw [e, if_pos (by omega)]
    congr 1
    unfold wrap64
    omega

theorem next_some (l : List Int) (p n : Int) (h0 : 0 ≤ p) (h1 : p ≤ l.length) (hl : l.length ≤ 4611686018427387904) (hn : 0 < n) (hb : n ≤ 4611686018427387904) :
    ∃ v q, soundservicemill_Deck_Next.f l p n = some (v, q) ∧ 0 ≤ v ∧ v < n ∧ 0 ≤ q ∧ q ≤ l.length := by
  unfold soundservicemill_Deck_Next.f
  simp only [soundservicemill_Deck_Left.f, Option.bind_some]
  by_cases c : p < (l.length : Int)
  · have e1 : wrap64 (p + 1) = p + 1 := by unfold wrap64; omega
    have e2 : wrap64 (p + 1 - 1) = p := by unfold wrap64; omega
    rw [if_pos (decide_eq_true c), e1, e2, if_pos h0, if_pos c, mod_eq _ n hn hb]
    exact ⟨_, _, rfl, Int.emod_nonneg _ (by omega), Int.emod_lt_of_pos _ hn, by omega, by omega⟩
  · rw [if_neg (by simpa using c)]
    exact ⟨0, p, rfl, by omega, hn, h0, h1⟩

theorem range_some (l : List Int) (p lo hi : Int) (h0 : 0 ≤ p) (h1 : p ≤ l.length) (hl : l.length ≤ 4611686018427387904) (ha : 0 ≤ lo) (hn : lo ≤ hi) (hb : hi ≤ 1000000) :
    ∃ v q, soundservicemill_Deck_Range.f l p lo hi = some (v, q) ∧ lo ≤ v ∧ v ≤ hi ∧ 0 ≤ q ∧ q ≤ l.length := by
  unfold soundservicemill_Deck_Range.f
  have e : wrap64 (wrap64 (hi - lo) + 1) = hi - lo + 1 := by unfold wrap64; omega
  rw [e]
  obtain ⟨v, q, hv, v0, v1, q0, q1⟩ := next_some l p (hi - lo + 1) h0 h1 hl (by omega) (by omega)
  have e2 : wrap64 (lo + v) = lo + v := by unfold wrap64; omega
  rw [hv]
  simp only [Option.bind_some]
  rw [e2]
  exact ⟨_, _, rfl, by omega, by omega, q0, q1⟩

theorem made_some (l : List Int) (hl : l.length ≤ 4611686018427387904) : ∃ g w a r h, soundservicelaw32_made.f l = some (g, w, a, r, h) ∧ 0 ≤ g ∧ g ≤ 262144 ∧ 0 ≤ w ∧ w ≤ h ∧ h ≤ 5 ∧ 1 ≤ a ∧ a ≤ 262144 ∧ 1 ≤ r ∧ r ≤ 90000 := by
  unfold soundservicelaw32_made.f
  simp only [soundservicemill_New.f, Option.bind_some]
  obtain ⟨a, p1, e1, a0, a1, p10, p11⟩ := range_some l 0 1 262144 (by omega) (by omega) hl (by omega) (by omega) (by omega)
  rw [e1]; simp only [Option.bind_some]
  obtain ⟨r, p2, e2, r0, r1, p20, p21⟩ := range_some l p1 1 90000 p10 p11 hl (by omega) (by omega) (by omega)
  rw [e2]; simp only [Option.bind_some]
  obtain ⟨h, p3, e3, h0, h1, p30, p31⟩ := next_some l p2 6 p20 p21 hl (by omega) (by omega)
  rw [e3]; simp only [Option.bind_some]
  obtain ⟨c, p4, e4, c0, c1, p40, p41⟩ := next_some l p3 3 p30 p31 hl (by omega) (by omega)
  rw [e4]; simp only [Option.bind_some]
  have eh : wrap64 (h + 1) = h + 1 := by unfold wrap64; omega
  by_cases cc : c = 0
  · rw [if_pos cc]
    obtain ⟨a', p5, e5, b0, b1, p50, p51⟩ := range_some l p4 1 3000 p40 p41 hl (by omega) (by omega) (by omega)
    rw [e5]; simp only [Option.bind_some]
    obtain ⟨g, p6, e6, g0, g1, p60, p61⟩ := next_some l p5 262145 p50 p51 hl (by omega) (by omega)
    rw [e6]; simp only [Option.bind_some]
    rw [eh]
    obtain ⟨w, p7, e7, w0, w1, p70, p71⟩ := next_some l p6 (h + 1) p60 p61 hl (by omega) (by omega)
    rw [e7]
    exact ⟨g, w, a', r, h, rfl, by omega, by omega, by omega, by omega, by omega, by omega, by omega, by omega, by omega⟩
  · rw [if_neg cc]
    obtain ⟨g, p6, e6, g0, g1, p60, p61⟩ := next_some l p4 262145 p40 p41 hl (by omega) (by omega)
    rw [e6]; simp only [Option.bind_some]
    rw [eh]
    obtain ⟨w, p7, e7, w0, w1, p70, p71⟩ := next_some l p6 (h + 1) p60 p61 hl (by omega) (by omega)
    rw [e7]
    exact ⟨g, w, a, r, h, rfl, by omega, by omega, by omega, by omega, by omega, by omega, by omega, by omega, by omega⟩

theorem within_true (n a b : Int) (h0 : a ≤ n) (h1 : n ≤ b) : duck_within.f n a b = some true := by
  unfold duck_within.f
  rw [if_pos h0, decide_eq_true h1]

theorem valid_true (g w a r h : Int) (h0 : 0 ≤ g) (h1 : g ≤ 262144) (h2 : 0 ≤ w) (h3 : w ≤ h) (h4 : h ≤ 4096) (h5 : 1 ≤ a) (h6 : a ≤ 262144) (h7 : 1 ≤ r) (h8 : r ≤ 262144) : duck_Valid.f g w a r h = some true := by
  unfold duck_Valid.f
  rw [within_true g 0 262144 h0 h1, within_true h 0 4096 (by omega) h4, within_true w 0 h h2 h3, within_true a 1 262144 h5 h6, within_true r 1 262144 h7 h8]
  simp

/-- The envelope after a quantum. -/
def nx (g w a r h t : Int) : Int × Int := if t < g then (mx t (g - a), h) else if t > g then (if w > 0 then (g, w - 1) else (mn t (g + r), w)) else (g, w)

/-- How many steps a way takes. -/
def cdiv (d a : Int) : Int := (d + a - 1) / a
theorem cdiv_one (d a : Int) (h0 : 0 < d) (h1 : d ≤ a) : cdiv d a = 1 := by
  unfold cdiv
  have e : d + a - 1 = (d - 1) + a * 1 := by omega
  rw [e, Int.add_mul_ediv_left _ _ (by omega), Int.ediv_eq_zero_of_lt (by omega) (by omega)]
  omega
theorem cdiv_less (d a : Int) (h0 : 0 < a) : cdiv d a = cdiv (d - a) a + 1 := by
  unfold cdiv
  have e : d + a - 1 = (d - a + a - 1) + a * 1 := by omega
  rw [e, Int.add_mul_ediv_left _ _ (by omega)]
theorem cdiv_pos (d a : Int) (h0 : 0 < d) (h1 : 0 < a) : 1 ≤ cdiv d a := by
  rw [cdiv_less d a h1]
  have : 0 ≤ cdiv (d - a) a := by unfold cdiv; exact Int.ediv_nonneg (by omega) (by omega)
  omega
theorem cdiv_le (d a m : Int) (hm : 0 ≤ m) (h1 : 0 < a) (h : d ≤ a * m) : cdiv d a ≤ m := by
  unfold cdiv
  have e : (d + a - 1) / a < m + 1 := Int.ediv_lt_of_lt_mul h1 (by rw [Int.add_mul, Int.mul_comm m a]; omega)
  omega

/-- After how many quanta the gain is t. -/
def qn (g w a r t : Int) : Int := if t = g then 0 else if t < g then cdiv (g - t) a else w + cdiv (t - g) r

theorem qn_step (g w a r h t : Int) (hne : t ≠ g) (h2 : 0 ≤ w) (h5 : 1 ≤ a) (h7 : 1 ≤ r) : qn (nx g w a r h t).1 (nx g w a r h t).2 a r t = qn g w a r t - 1 := by
  unfold qn nx
  by_cases c1 : t < g
  · simp only [if_pos c1, if_neg hne]
    by_cases c2 : g - a ≤ t
    · have m : mx t (g - a) = t := by unfold mx; omega
      rw [m, if_pos rfl, cdiv_one (g - t) a (by omega) (by omega)]; omega
    · have m : mx t (g - a) = g - a := by unfold mx; omega
      rw [m, if_neg (by omega), if_pos (by omega), cdiv_less (g - t) a (by omega)]
      have e : g - a - t = g - t - a := by omega
      rw [e]; omega
  · have c2 : t > g := by omega
    simp only [if_neg c1, if_pos c2, if_neg hne]
    by_cases c3 : w > 0
    · rw [if_pos c3]
      simp only
      rw [if_neg hne, if_neg c1]; omega
    · rw [if_neg c3]
      simp only
      by_cases c4 : t ≤ g + r
      · have m : mn t (g + r) = t := by unfold mn; omega
        rw [m, if_pos rfl, cdiv_one (t - g) r (by omega) (by omega)]; omega
      · have m : mn t (g + r) = g + r := by unfold mn; omega
        rw [m, if_neg (by omega), if_neg (by omega), cdiv_less (t - g) r (by omega)]
        have e : t - (g + r) = t - g - r := by omega
        rw [e]; omega

theorem nx_ok (g w a r h t : Int) (h0 : 0 ≤ g) (h1 : g ≤ 262144) (h2 : 0 ≤ w) (h3 : w ≤ h) (h5 : 1 ≤ a) (h7 : 1 ≤ r) (t0 : 0 ≤ t) (t1 : t ≤ 262144) :
    0 ≤ (nx g w a r h t).1 ∧ (nx g w a r h t).1 ≤ 262144 ∧ 0 ≤ (nx g w a r h t).2 ∧ (nx g w a r h t).2 ≤ h ∧ (nx g w a r h t).1 - g ≤ r ∧ -((nx g w a r h t).1 - g) ≤ a ∧ (t > g → 0 ≤ (nx g w a r h t).1 - g) ∧ (t < g → (nx g w a r h t).1 - g < 0) := by
  unfold nx mx mn
  split
  · simp only; omega
  · split
    · split
      · simp only; omega
      · simp only; omega
    · simp only; omega


theorem valid_same (g w a r h : Int) : duck_Valid.f g w a r h = soundserviceref32_Valid.f g w a r h := by
  unfold duck_Valid.f soundserviceref32_Valid.f duck_within.f
  by_cases c1 : g ≥ 0
  case neg => simp [c1]
  by_cases c2 : g ≤ 262144
  case neg => simp [c1, c2]
  by_cases c3 : h ≥ 0
  case neg => simp [c1, c2, c3]
  by_cases c4 : h ≤ 4096
  case neg => simp [c1, c2, c3, c4]
  by_cases c5 : w ≥ 0
  case neg => simp [c1, c2, c3, c4, c5]
  by_cases c6 : w ≤ h
  case neg => simp [c1, c2, c3, c4, c5, c6]
  by_cases c7 : a ≥ 1
  case neg => simp [c1, c2, c3, c4, c5, c6, c7]
  by_cases c8 : a ≤ 262144
  case neg => simp [c1, c2, c3, c4, c5, c6, c7, c8]
  by_cases c9 : r ≥ 1
  case neg => simp [c1, c2, c3, c4, c5, c6, c7, c8, c9]
  simp [c1, c2, c3, c4, c5, c6, c7, c8, c9]

theorem valid_ref (g w a r h : Int) : (∃ b, soundserviceref32_Valid.f g w a r h = some b) ∧ (soundserviceref32_Valid.f g w a r h = some true → 0 ≤ g ∧ g ≤ 262144 ∧ 0 ≤ w ∧ w ≤ h ∧ h ≤ 4096 ∧ 1 ≤ a ∧ a ≤ 262144 ∧ 1 ≤ r ∧ r ≤ 262144) := by
  unfold soundserviceref32_Valid.f
  by_cases c1 : g ≥ 0
  case neg => simp [c1]
  by_cases c2 : g ≤ 262144
  case neg => simp [c1, c2]
  by_cases c3 : h ≥ 0
  case neg => simp [c1, c2, c3]
  by_cases c4 : h ≤ 4096
  case neg => simp [c1, c2, c3, c4]
  by_cases c5 : w ≥ 0
  case neg => simp [c1, c2, c3, c4, c5]
  by_cases c6 : w ≤ h
  case neg => simp [c1, c2, c3, c4, c5, c6]
  by_cases c7 : a ≥ 1
  case neg => simp [c1, c2, c3, c4, c5, c6, c7]
  by_cases c8 : a ≤ 262144
  case neg => simp [c1, c2, c3, c4, c5, c6, c7, c8]
  by_cases c9 : r ≥ 1
  case neg => simp [c1, c2, c3, c4, c5, c6, c7, c8, c9]
  rw [if_pos c1, if_pos c2, if_pos c3, if_pos c4, if_pos c5, if_pos c6, if_pos c7, if_pos c8, if_pos c9]
  refine ⟨⟨_, rfl⟩, fun e => ?_⟩
  have e' : r ≤ 262144 := of_decide_eq_true (Option.some.inj e)
  omega

theorem moved_eq (k : Nat) (g w a r h t : Int) (h0 : 0 ≤ g) (h1 : g ≤ 262144) (h2 : 0 ≤ w) (h3 : w ≤ 4096) (h5 : 1 ≤ a) (h6 : a ≤ 262144) (h7 : 1 ≤ r) (h8 : r ≤ 262144) :
    soundserviceref32_moved.f (k + 1) g w a r h t = some (nx g w a r h t) := by
  unfold soundserviceref32_moved.f nx
  have e1 : wrap64 (g - a) = g - a := by unfold wrap64; omega
  have e2 : wrap64 (g + r) = g + r := by unfold wrap64; omega
  have e3 : wrap64 (w - 1) = w - 1 := by unfold wrap64; omega
  simp only [soundserviceref32_moved.j0, e1, e2, e3]
  by_cases c1 : t < g
  · rw [if_pos c1, if_pos c1]
  · rw [if_neg c1, if_neg c1]
    by_cases c2 : t > g
    · rw [if_pos c2, if_pos c2]
      by_cases c3 : w > 0
      · rw [if_pos (decide_eq_true c3), if_pos c3, if_pos c2]
      · have c4 : w = 0 := by omega
        rw [if_neg (by simpa using c3), if_pos c2, if_neg c3, c4]
    · rw [if_neg c2, if_neg c2, if_neg (by simp), if_neg c2]

theorem loop_ok (a r h t : Int) (h4 : h ≤ 4096) (h5 : 1 ≤ a) (h6 : a ≤ 262144) (h7 : 1 ≤ r) (h8 : r ≤ 262144) (t0 : 0 ≤ t) (t1 : t ≤ 262144) (d : Nat) :
    ∀ (k : Nat) (n g w : Int), d + 1 < k → qn g w a r t = d → 0 ≤ n → n + d ≤ 100000 → 0 ≤ g → g ≤ 262144 → 0 ≤ w → w ≤ h → soundserviceref32_Quanta.l0 k t n g w a r h = some (n + d) := by
  induction d with
  | zero =>
    intro k n g w hk hq hn hi h0 h1 h2 h3
    obtain ⟨k, rfl⟩ : ∃ m, k = m + 2 := ⟨k - 2, by omega⟩
    have e : t = g := by
      refine Classical.byContradiction fun hne => ?_
      unfold qn at hq
      rw [if_neg hne] at hq
      split at hq
      · have := cdiv_pos (g - t) a (by omega) (by omega); omega
      · have := cdiv_pos (t - g) r (by omega) (by omega); omega
    rw [soundserviceref32_Quanta.l0, if_pos e.symm]
    congr 1
    omega
  | succ d ih =>
    intro k n g w hk hq hn hi h0 h1 h2 h3
    obtain ⟨k, rfl⟩ : ∃ m, k = m + 2 := ⟨k - 2, by omega⟩
    have hne : t ≠ g := by
      intro e
      unfold qn at hq
      rw [if_pos e] at hq
      omega
    obtain ⟨g0, g1, w0, w1, _, _, _, _⟩ := nx_ok g w a r h t h0 h1 h2 h3 h5 h7 t0 t1
    have hs := qn_step g w a r h t hne h2 h5 h7
    rw [soundserviceref32_Quanta.l0, if_neg (fun e => hne e.symm), moved_eq k g w a r h t h0 h1 h2 (by omega) h5 h6 h7 h8]
    generalize (nx g w a r h t) = x at *
    obtain ⟨g', w'⟩ := x
    simp only [Option.bind_some] at *
    have e3 : wrap64 (n + 1) = n + 1 := by unfold wrap64; omega
    rw [e3, ih (k + 1) (n + 1) g' w' (by omega) (by omega) (by omega) (by omega) g0 g1 w0 w1]
    congr 1
    omega

theorem quanta_eq (k : Nat) (g w a r h t : Int) (h0 : 0 ≤ g) (h1 : g ≤ 262144) (h2 : 0 ≤ w) (h3 : w ≤ h) (h4 : h ≤ 4096) (h5 : 50 ≤ a) (h6 : a ≤ 262144) (h7 : 50 ≤ r) (h8 : r ≤ 262144) (t0 : 0 ≤ t) (t1 : t ≤ 262144) :
    duck_Quanta.f (k + 1) g w a r h t = some (qn g w a r t) ∧ 0 ≤ qn g w a r t ∧ qn g w a r t ≤ 10000 := by
  have st : ∀ d s : Int, 0 < d → d ≤ 262144 → 50 ≤ s → s ≤ 262144 → duck_steps.f d s = some (cdiv d s) ∧ 1 ≤ cdiv d s ∧ cdiv d s ≤ 5243 := by
    intro d s d0 d1 s0 s1
    have b1 := cdiv_pos d s d0 (by omega)
    have b2 := cdiv_le d s 5243 (by omega) (by omega) (by omega)
    refine ⟨?_, b1, b2⟩
    unfold duck_steps.f
    have e1 : wrap64 (d + s) = d + s := by unfold wrap64; omega
    have e2 : wrap64 (d + s - 1) = d + s - 1 := by unfold wrap64; omega
    rw [if_neg (by omega), e1, e2, Int.tdiv_eq_ediv_of_nonneg (by omega)]
    have e3 : (d + s - 1) / s = cdiv d s := rfl
    rw [e3]
    congr 1
    unfold wrap64
    omega
  unfold duck_Quanta.f qn
  rw [valid_true g w a r h h0 h1 h2 h3 (by omega) (by omega) h6 (by omega) h8, within_true t 0 262144 t0 t1]
  simp only [Option.bind_some, if_true, duck_Quanta.j0]
  by_cases c : t = g
  · rw [if_pos (by simpa using c), if_pos c]
    exact ⟨rfl, by omega, by omega⟩
  · rw [if_neg (by simpa using c), if_neg c]
    by_cases c1 : t < g
    · have e1 : wrap64 (g - t) = g - t := by unfold wrap64; omega
      obtain ⟨s1, s2, s3⟩ := st (g - t) a (by omega) (by omega) h5 h6
      rw [if_pos c1, if_pos c1, e1, s1]
      exact ⟨rfl, by omega, by omega⟩
    · have e1 : wrap64 (t - g) = t - g := by unfold wrap64; omega
      obtain ⟨s1, s2, s3⟩ := st (t - g) r (by omega) (by omega) h7 h8
      rw [if_neg c1, if_neg c1, e1, s1]
      have e2 : wrap64 (w + cdiv (t - g) r) = w + cdiv (t - g) r := by unfold wrap64; omega
      simp only [Option.bind_some]
      rw [e2]
      exact ⟨rfl, by omega, by omega⟩

/-- The program and the reference tell the same number of quanta. -/
theorem quanta_same (g w a r h t : Int) (h5 : 50 ≤ a) (h7 : 50 ≤ r) : ∃ q, duck_Quanta.f 20000 g w a r h t = some q ∧ soundserviceref32_Quanta.f 20000 g w a r h t = some q := by
  have ev := valid_same g w a r h
  obtain ⟨⟨b, hb⟩, hv⟩ := valid_ref g w a r h
  cases b with
  | false =>
    refine ⟨0, ?_, ?_⟩
    · unfold duck_Quanta.f
      rw [ev, hb]
      simp [duck_Quanta.j0]
    · unfold soundserviceref32_Quanta.f
      rw [hb]
      simp [soundserviceref32_Quanta.j0]
  | true =>
    obtain ⟨g0, g1, w0, w1, h1, a0, a1, r0, r1⟩ := hv hb
    by_cases ht : 0 ≤ t ∧ t ≤ 262144
    · obtain ⟨q1, q2, q3⟩ := quanta_eq 19999 g w a r h t g0 g1 w0 w1 h1 h5 a1 h7 r1 ht.1 ht.2
      refine ⟨_, q1, ?_⟩
      unfold soundserviceref32_Quanta.f
      rw [hb]
      simp only [Option.bind_some, if_true]
      rw [if_neg (by omega), soundserviceref32_Quanta.j0, if_neg (by simp; omega), loop_ok a r h t h1 a0 a1 r0 r1 ht.1 ht.2 (qn g w a r t).toNat 19999 0 g w (by omega) (by omega) (by omega) (by omega) g0 g1 w0 w1]
      congr 1
      omega
    · refine ⟨0, ?_, ?_⟩
      · unfold duck_Quanta.f
        rw [ev, hb]
        simp only [Option.bind_some, if_true, duck_within.f]
        by_cases c : t ≥ 0
        · rw [if_pos c, decide_eq_false (by omega)]
          simp [duck_Quanta.j0]
        · rw [if_neg c]
          simp [duck_Quanta.j0]
      · unfold soundserviceref32_Quanta.f
        rw [hb]
        simp only [Option.bind_some, if_true]
        by_cases c : t < 0
        · rw [if_pos c, soundserviceref32_Quanta.j0, if_pos rfl]
        · rw [if_neg c, soundserviceref32_Quanta.j0, if_pos (by simp; omega)]

theorem DuckQuanta (l : List Int) (e0 e1 s0 s1 s2 t : Int) (hl : l.length * 8 ≤ 140737488351232) : soundservicelaw32_DuckQuanta.f 20000 l e0 e1 s0 s1 s2 t = some true := by
  have sn : soundservicelaw32_sane.f 20000 = some true := by decide +kernel
  obtain ⟨g, w, a, r, h, hm, _⟩ := made_some l (by omega)
  have mx1 : ∀ x, 50 ≤ mx x 50 := by intro x; unfold mx; omega
  unfold soundservicelaw32_DuckQuanta.f
  rw [sn, hm, mod_eq t 262145 (by omega) (by omega)]
  simp only [Option.bind_some, if_true]
  obtain ⟨q1, x1, y1⟩ := quanta_same g w (mx a 50) (mx r 50) h (t % 262145) (mx1 _) (mx1 _)
  obtain ⟨q2, x2, y2⟩ := quanta_same e0 e1 (mx s0 50) (mx s1 50) s2 t (mx1 _) (mx1 _)
  obtain ⟨q3, x3, y3⟩ := quanta_same g w (mx a 50) (mx r 50) h t (mx1 _) (mx1 _)
  rw [x1, y1]
  simp only [Option.bind_some, if_true]
  rw [x2, y2]
  simp only [Option.bind_some, if_true]
  rw [x3, y3]
  simp

end Go.Proofs.Ytaflnbnikabeaaa.Pure
