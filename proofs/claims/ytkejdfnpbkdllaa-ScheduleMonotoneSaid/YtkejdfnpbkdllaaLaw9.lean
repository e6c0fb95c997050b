/- The law ScheduleMonotone. -/
import Derived.Test.YtkejdfnpbkdllaaLaw9F
import Derived.Test.YtkejdfnpbkdllaaSan25
import Derived.Test.YtkejdfnpbkdllaaRem
set_option linter.unusedVariables false
set_option linter.unusedSimpArgs false
set_option maxRecDepth 20000
namespace Go.Proofs.Ytkejdfnpbkdllaa
open Go Go.RowKit Go.Proofs.YtkejdfnpbkdllaaV
theorem does_list0 {α : Type} (enc : α → List Value) {P : Program} {S : List Nat} {w0 : World} {Γ : List Piece} {Γg : Nat → List Piece} {L : List (Nat × Value)} {n m : Nat} {T e ty : TypeId} (ht : P.underlying T = some (.slice e)) (hm : (Nat.beq (P.cellsOf e) m && !Nat.beq m 0) = true) (hΓ : ∀ g, Cat Γ [Box g [] e] (Γg g)) :
    Does P n L S w0 Γ (.buildSlice T 0 #[]) ty (fun g : Nat => .slice (some ⟨g, 0, none⟩) 0 0) Γg := fun a w dst pos after g hf hs =>
  .inl ⟨w.heap.size, w.alloc (.cells #[] e (0, 0)), by
    simp only [Bool.and_eq_true, Bool.not_eq_true'] at hm
    have hm1 : P.cellsOf e = m := by simpa using hm.1
    obtain ⟨j, hj1, hj2⟩ := cellsOf_info (P := P) (t := e) (by rw [hm1]; exact hm.2)
    simp [execOp, Instr.buildSlice, Sem.run_bind, run_underlying ht, sizeOf, typeInfo, hj1, newRow, newObj, Instr.fill, Sem.run]
    rw [show Array.range 0 = #[] by decide, Array.map_empty], (hΓ w.heap.size).eq ▸ hs.newBox [] e⟩
/-- An empty list of our own is a row. -/
theorem At.row0 {α : Type} {enc : α → List Value} {m : Nat} {P : Program} {S : List Nat} {w0 : World} {Γ Γ' : List Piece} {L : List (Nat × Value)} {n : Nat} {ops : Array Oper} {rest : List Oper} {Q : Exit → Act → World → Prop} {i g : Nat} {e : TypeId} (hin : Nth Γ i (Box g [] e)) (hch : Chg Γ i (RowP enc m e (some ⟨g, 0, none⟩) 0 []) Γ') (h : At P ops Q rest n L S w0 Γ') : At P ops Q rest n L S w0 Γ := fun a w hf hs => h a w hf (hch.eq ▸ hs.turn hin.get (.refl _ _) (by
    have hb := hs.box hin.get
    refine ⟨by simp, .inr ⟨g, 0, #[], rfl, Nat.zero_le _, hb, Nat.le_refl _, by simp [maxLen], by simp, by simp⟩⟩) (fun j hj => by
    have hj' : j = g := by simpa [RowP, blk] using hj
    subst hj'
    exact ⟨.inl (by simp [Box]), (hs.ins _ (List.mem_of_getElem? hin.get) j (by simp [Box])).1⟩))

theorem mill_prob {z : MZ} (hz : MillOk z) {w : Int} (h : 1 ≤ w ∧ w ≤ 8) : problemS z.ns z.ls z.cs w = true := by
  refine prob_yes hz.valid (by rw [hz.clen]; exact beq_self_eq_true _) (by omega) (by omega) ?_
  rw [List.all_eq_true]
  intro c hc
  have := hz.cost c hc
  unfold costB
  simp only [Bool.and_eq_true, decide_eq_true_eq]
  omega

theorem at_hands_g {P : Program} {S : List Nat} {w0 : World} {Γ : List Piece} {L : List (Nat × Value)} {n d : Nat} {ops : Array Oper} {rest : List Oper} {Q : Exit → Act → World → Prop} {op : Op} {ty : TypeId} {pos : String} {after : Array Edge} {len : Nat} {Γf : Option Addr → Nat → List Piece} {j t : Nat} {b b' : Bool} (hj : (ops[j]?).bind (·.dst) = some t) (hb' : YtkejdfnpbkdllaaV.lk t L = some (.bool b')) (he : b' = b) (h : Hands P n L S w0 Γ op ty len Γf) (hd : Nat.blt d n = true) (k : ∀ a c, Real a len → len ≤ c → At P ops Q rest n ((d, .slice a len c) :: L) S w0 (Γf a c)) :
    At P ops Q (⟨some d, op, ty, pos, after, some (j, b)⟩ :: rest) n L S w0 Γ := at_does_g hj hb' he h hd fun z => k z.1.1 z.1.2 z.2.1 z.2.2

set_option maxRecDepth 10000 in
set_option maxHeartbeats 4000000 in
theorem scheduleMonotone_any (a0 : Option Addr) (len0 cap0 : Nat) (at_ lk less_ wk : Int) (w : World) (hI : Ints [] w a0 len0) (hlen : len0 ≤ 17592186044416) : Calls Try.prog 9 [.slice a0 len0 cap0, .int .i64 at_, .int .i64 lk, .int .i64 less_, .int .i64 wk].toArray w (Val (.bool true) w) := by
  refine calls_body (n := 125) Try.func9 rfl rfl rfl (St.init _ []) ?_
  refine cd_seq ?_
  refine cd_region ?_
  refine at_pure (pv_assign rfl) rfl ?_
  refine at_nil ?_
  refine ex_go ?_
  refine cd_seq ?_
  refine cd_seq ?_
  refine cd_region ?_
  refine at_does (does_val cal10 rfl rfl rfl (fun w hs => sane_25 w)) rfl (fun _ => ?_)
  refine at_pure (pv_not rfl) rfl ?_
  refine at_nil ?_
  refine ex_go ?_
  refine cd_else rfl rfl ?_
  refine cd_skip ?_
  refine ex_go ?_
  refine cd_seq ?_
  refine cd_region ?_
  refine at_pure (pv_move rfl) rfl ?_
  refine at_does (does_gives (X := Nat) (val := fun g => Value.pointer (some ⟨g, 0, none⟩)) (Δ := fun g => [Box g [.slice a0 len0 cap0, .int .i64 0] 76]) cal12 rfl rfl rfl (fun w hs => by have h9 := deck_new a0 len0 cap0 w; exact h9) (fun _ => .nil)) rfl (fun gd => ?_)
  refine at_mades (does_mades (X := MZ) (val := fun z => .tuple #[.agg #[.slice z.an z.ns.length z.cn, .slice z.al z.ls.length z.cl], .slice z.ac z.cs.length z.cc]) (Δ := fun z => [RowP enc4 4 70 z.an z.cn z.ns, RowP enc4 4 61 z.al z.cl z.ls, RowP enc1 1 3 z.ac z.cc z.cs]) (good := MillOk) cal11 rfl rfl rfl .z (fun w hs => by have h9 := graph_any gd a0 len0 cap0 0 w (hs.box (i := 0) rfl) (hI.beside hs .z) (by omega) hlen; exact h9) (fun _ => rfl)) rfl (fun z hz => ?_)
  refine at_pure (pv_move rfl) rfl ?_
  refine at_pure (pv_extract rfl rfl) rfl ?_
  refine at_pure (pv_extract rfl rfl) rfl ?_
  refine at_does (does_alloc ze_28 .agg (fun _ => (.cons (.cons (.cons .nil))))) rfl (fun g13 => ?_)
  refine at_turns (by exact turns_store sz_28 rfl rfl .agg rfl rfl (.s (.s (.s .z))) (.rep (.rep .done)) (.s (.s (.s .z)))) ?_
  refine at_pure (pv_assign rfl) rfl ?_
  refine at_nil ?_
  refine ex_go ?_
  refine cd_seq ?_
  refine cd_region ?_
  refine at_pure (pv_move rfl) rfl ?_
  refine at_does (does_val cal13 rfl rfl rfl (fun w hs => mod_any _ _ w (by first | decide | omega))) rfl (fun _ => ?_)
  refine at_pure (by first | exact pv_add_n rfl rfl (by unfold In64; omega) | exact pv_add rfl rfl) rfl ?_
  refine at_pure (pv_assign rfl) rfl ?_
  refine at_nil ?_
  refine ex_go ?_
  refine cd_seq ?_
  have hp5 := mill_prob hz (w := (1 + wk % 5)) (by omega)
  have hcl := hz.clen
  have hn8 := hz.n8
  have hl12 := hz.l12
  have hg := (valid_iff z.ns z.ls).1 hz.valid
  refine Cd.know (fun w hs => (hs.rows len1 (by decide) (.s (.s .z))).real) (fun hrc => ?_)
  refine Cd.know (fun w hs => (hs.rows len1 (by decide) (.s (.s .z))).nil) (fun hcn => ?_)
  refine Cd.know (fun w hs => (hs.rows len1 (by decide) (.s (.s .z))).le) (fun hcle => ?_)
  refine Cd.know (fun w hs => (hs.rows len4 (by decide) .z).real) (fun hrn => ?_)
  refine Cd.know (fun w hs => (hs.rows len4 (by decide) (.s .z)).real) (fun hrlk => ?_)
  refine cd_region ?_
  refine at_pure (by exact pv_loads_box ag_28 rfl (.s (.s (.s .z))) (.take (.take .done))) rfl ?_
  refine at_pure (pv_move rfl) rfl ?_
  refine at_pure (pv_move rfl) rfl ?_
  refine at_does (does_val cal20 rfl rfl rfl (fun w hs => bound_full z.an z.al z.cn z.cl z.ns z.ls z.ac z.cc z.cs (1 + wk % 5) w (hs.rows len4 (by decide) .z) (hs.rows len4 (by decide) (.s .z)) (hs.rows len1 (by decide) (.s (.s .z))))) rfl (fun _ => ?_)
  refine at_pure (pv_assign rfl) rfl ?_
  refine at_nil ?_
  refine ex_go ?_
  refine cd_seq ?_
  refine cd_seq ?_
  refine cd_region ?_
  refine at_pure (pv_field0 fa_28_0 rfl (r := 0) rfl) rfl ?_
  refine at_pure (by exact pv_load ld_25 rfl (box_cell (.s (.s (.s .z))) .z)) rfl ?_
  refine at_pure (pv_len Try.underlying25 rfl) rfl ?_
  refine at_pure (pv_eql rfl rfl) rfl ?_
  refine at_nil ?_
  refine ex_go ?_
  refine cd_if rfl (fun hn0 => ?_) (fun hn0 => ?_)
  · have hb0 := bound_nil hp5 (List.eq_nil_of_length_eq_zero (by simp only [beq_iff_eq] at hn0; omega))
    refine cd_seq ?_
    refine cd_region ?_
    refine at_pure (pv_move rfl) rfl ?_
    refine at_pure (pv_eql rfl rfl) rfl ?_
    refine at_pure (pv_assign rfl) rfl ?_
    refine at_nil ?_
    refine ex_go ?_
    refine cd_ret ?_
    refine ex_then_ret ?_
    exact end_ret1 rfl rfl (fun w hs => ⟨congrArg (fun b => Ending.returned (.bool b)) (beq_iff_eq.2 hb0), hs.keep⟩)
  · have hn1 : 0 < z.ns.length := by simp only [beq_eq_false_iff_ne] at hn0; omega
    have hkp := Int.emod_nonneg at_ (show (z.ns.length : Int) ≠ 0 by omega)
    have hkq := Int.emod_lt_of_pos at_ (show (0 : Int) < (z.ns.length : Int) by omega)
    obtain ⟨y, hy⟩ := get_of (xs := z.ns) (k := (at_ % (z.ns.length : Int)).toNat) (by omega)
    have hck := at1_get (xs := z.cs) (k := (at_ % (z.ns.length : Int)).toNat) (by omega)
    have hcb := hz.cost _ (List.mem_of_getElem? hck)
    refine cd_skip ?_
    refine ex_go ?_
    refine cd_seq ?_
    refine cd_region ?_
    refine at_pure (pv_move rfl) rfl ?_
    refine at_pure (pv_field0 fa_28_0 rfl (r := 0) rfl) rfl ?_
    refine at_pure (by exact pv_load ld_25 rfl (box_cell (.s (.s (.s .z))) .z)) rfl ?_
    refine at_pure (pv_len Try.underlying25 rfl) rfl ?_
    refine at_does (does_val cal13 rfl rfl rfl (fun w hs => mod_any _ _ w (by first | decide | omega))) rfl (fun _ => ?_)
    refine at_pure (pv_assign rfl) rfl ?_
    refine at_nil ?_
    refine ex_go ?_
    refine cd_seq ?_
    refine cd_region ?_
    refine at_does (does_list0 enc1 Try.underlying22 cz_3 (fun _ => (.cons (.cons (.cons (.cons .nil)))))) rfl (fun g15 => ?_)
    refine At.row0 (enc := enc1) (m := 1) (.s (.s (.s (.s .z)))) (.s (.s (.s (.s .z)))) ?_
    refine at_pure (pv_move rfl) rfl ?_
    refine at_hands (does_app (ys := z.cs) ⟨len1, by decide, one1⟩ Try.underlying22 ap_3 rfl rfl rfl (.s (.s (.s (.s .z)))) (fun w hs => (hs.rows len1 (by decide) (.s (.s .z)))) (by have h9 : ([] : List Int).length = 0 := rfl; omega) hcn (fun _ _ => (.s (.s (.s (.s .z)))))) rfl (fun a16 c16 hr2 hc2 => ?_)
    rw [List.nil_append]
    refine at_pure (pv_assign rfl) rfl ?_
    refine at_nil ?_
    refine ex_go ?_
    refine cd_seq ?_
    refine Cd.know (fun w hs => (hs.rows len1 (by decide) (.s (.s (.s (.s .z))))).real) (fun hrl => ?_)
    refine cd_region ?_
    refine at_pure (pv_move rfl) rfl ?_
    refine at_pure (pv_move rfl) rfl ?_
    refine at_pure (pv_move rfl) rfl ?_
    refine at_pure (pv_move rfl) rfl ?_
    refine at_pure (pv_move rfl) rfl ?_
    refine at_pure (pv_ix Try.underlying22 cz_3 rfl rfl (by first | omega | (simp only [decide_eq_true_eq, decide_eq_false_iff_not] at *; omega)) hrc (k := (at_ % (z.ns.length : Int)).toNat) (by omega)) rfl ?_
    refine at_pure (pv_elem0 ld_3 rfl (RowP.get len1 (by decide) (.s (.s .z)) hck .z)) rfl ?_
    refine at_pure (by first | exact pv_add_n rfl rfl (by unfold In64; omega) | exact pv_add rfl rfl) rfl ?_
    refine at_does (does_val cal13 rfl rfl rfl (fun w hs => mod_any _ _ w (by first | decide | omega))) rfl (fun _ => ?_)
    have hv0 := Int.emod_nonneg less_ (show at1 z.cs (at_ % (z.ns.length : Int)).toNat + 1 ≠ 0 by omega)
    have hv1 := Int.emod_lt_of_pos less_ (show 0 < at1 z.cs (at_ % (z.ns.length : Int)).toNat + 1 by omega)
    have hlow := bound_lower (v := less_ % (at1 z.cs (at_ % (z.ns.length : Int)).toNat + 1)) hp5 (show (at_ % (z.ns.length : Int)).toNat < z.cs.length by omega) hv0 (by omega)
    have hrem := bound_rem hp5 hy
    have hhas : hasN z.ns y.1 = true := hasN_mem.2 (List.mem_map.2 ⟨y, List.mem_of_getElem? hy, rfl⟩)
    refine at_pure (pv_ix Try.underlying22 cz_3 rfl rfl (by first | omega | (simp only [decide_eq_true_eq, decide_eq_false_iff_not] at *; omega)) hrl (k := (at_ % (z.ns.length : Int)).toNat) (by omega)) rfl ?_
    refine at_turns (by exact turns_put (z' := (less_ % (at1 z.cs (at_ % (z.ns.length : Int)).toNat + 1))) (k := (at_ % (z.ns.length : Int)).toNat) (q := 0) len1 sz_3 rfl rfl rfl (.one rfl) rfl rfl (.s (.s (.s (.s .z)))) hck rfl (Nat.le_of_ble_eq_true rfl) (.s (.s (.s (.s .z))))) ?_
    refine at_nil ?_
    refine ex_go ?_
    refine cd_cut (σ := ((Option Addr × Nat) × (Option Addr × Nat)) × Nat) (fun s => [(2, .int .i64 lk), (11, Value.pointer (some ⟨g13, 0, none⟩)), (12, .slice z.ac z.cs.length z.cc), (13, .int .i64 (1 + wk % 5)), (14, .int .i64 (boundS z.ns z.ls z.cs (1 + wk % 5))), (15, .int .i64 (at_ % (z.ns.length : Int))), (16, .slice a16 (z.cs.set (at_ % (z.ns.length : Int)).toNat (less_ % (at1 z.cs (at_ % (z.ns.length : Int)).toNat + 1))).length c16), (18, .int .i64 0), (17, Value.pointer (some ⟨s.2, 0, none⟩))]) (fun s => [RowP enc4 4 70 z.an z.cn z.ns, RowP enc4 4 61 z.al z.cl z.ls, RowP enc1 1 3 z.ac z.cc z.cs, Box g13 [.slice z.an z.ns.length z.cn, .slice z.al z.ls.length z.cl] 28, RowP enc1 1 3 a16 c16 (z.cs.set (at_ % (z.ns.length : Int)).toNat (less_ % (at1 z.cs (at_ % (z.ns.length : Int)).toNat + 1))), RowP enc4 4 70 s.1.1.1 s.1.1.2 (remN z.ns y.1), RowP enc4 4 61 s.1.2.1 s.1.2.2 (remL z.ls y.1), Box s.2 [.slice s.1.1.1 (remN z.ns y.1).length s.1.1.2, .slice s.1.2.1 (remL z.ls y.1).length s.1.2.2] 28]) (fun _ => True) ?_ ?_
    · skip
      refine cd_draw' 14 follows ?_
      refine dr_take 0 rfl (by kernel_rfl) (.refl _) (by exact pv_loads_box ag_28 rfl (.s (.s (.s .z))) (.take (.take .done))) rfl ?_
      refine dr_take 1 rfl (by kernel_rfl) (.refl _) (pv_field0 fa_28_0 rfl (r := 0) rfl) rfl ?_
      refine dr_take 2 rfl (by kernel_rfl) (.refl _) (by exact pv_load ld_25 rfl (box_cell (.s (.s (.s .z))) .z)) rfl ?_
      refine dr_take 3 rfl (by kernel_rfl) (.refl _) (pv_move rfl) rfl ?_
      refine dr_take 4 rfl (by kernel_rfl) (.refl _) (pv_ix Try.underlying25 cz_70 rfl rfl (by first | omega | (simp only [decide_eq_true_eq, decide_eq_false_iff_not] at *; omega)) hrn (k := (at_ % (z.ns.length : Int)).toNat) (by omega)) rfl ?_
      refine dr_take 5 rfl (by kernel_rfl) (.refl _) (pv_fieldAddr fa_70_0 rfl) rfl ?_
      refine dr_take 6 rfl (by kernel_rfl) (.refl _) (pv_elem ld_3 rfl (RowP.get len4 (by decide) .z hy .z)) rfl ?_
      refine dr_two 7 11 (by kernel_rfl) rfl rfl ?_ ?_
      · skip
        refine at_does (does_gives (X := (Option Addr × Nat) × (Option Addr × Nat)) (val := (fun q : (Option Addr × Nat) × (Option Addr × Nat) => .tuple #[.agg #[.slice q.1.1 (remN z.ns y.1).length q.1.2, .slice q.2.1 (remL z.ls y.1).length q.2.2], .int .i64 0])) (Δ := (fun q => [RowP enc4 4 70 q.1.1 q.1.2 (remN z.ns y.1), RowP enc4 4 61 q.2.1 q.2.2 (remL z.ls y.1)])) cal31 rfl rfl rfl (fun w hs => by have h9 := remove_ref z.an z.al z.cn z.cl z.ns z.ls y.1 w (hs.rows len4 (by decide) .z) (hs.rows len4 (by decide) (.s .z)) hz.valid hhas; exact h9) (fun _ => (.cons (.cons (.cons (.cons (.cons .nil))))))) rfl (fun r9 => ?_)
        refine at_nil (dr_next (fun _ => (by repeat first | exact sLn _ | apply sLc | apply sLd)) ?_)
        refine dr_take 8 rfl (by kernel_rfl) (by repeat first | exact sLn _ | apply sLc | apply sLd) (pv_move rfl) rfl ?_
        refine dr_take 9 rfl (by kernel_rfl) (by repeat first | exact sLn _ | apply sLc | apply sLd) (pv_extract rfl rfl) rfl ?_
        refine dr_take 10 rfl (by kernel_rfl) (by repeat first | exact sLn _ | apply sLc | apply sLd) (pv_extract rfl rfl) rfl ?_
        refine dr_one 11 (by kernel_rfl) rfl ?_
        refine at_does (does_alloc ze_28 .agg (fun _ => (.cons (.cons (.cons (.cons (.cons (.cons (.cons .nil))))))))) rfl (fun g17 => ?_)
        refine at_nil (dr_next (fun _ => (by repeat first | exact sLn _ | apply sLc | apply sLd)) ?_)
        refine dr_one 12 (by kernel_rfl) rfl ?_
        refine at_turns (by exact turns_store sz_28 rfl rfl .agg rfl rfl (.s (.s (.s (.s (.s (.s (.s .z))))))) (.rep (.rep .done)) (.s (.s (.s (.s (.s (.s (.s .z)))))))) ?_
        refine at_nil (dr_next (fun _ => (by repeat first | exact sLn _ | apply sLc | apply sLd)) ?_)
        refine dr_take 13 rfl (by kernel_rfl) (by repeat first | exact sLn _ | apply sLc | apply sLd) (pv_assign rfl) rfl ?_
        refine dr_done (by kernel_rfl) ?_
        first | (refine ex_meet (r9, g17) trivial ⟨rfl, rfl, rfl, rfl, rfl, rfl, by rw [List.length_set]; rfl, rfl, rfl, trivial⟩ ?_; (repeat first | exact sLn _ | apply sLc | apply sLd); done) | (refine ex_meet_p (r9, g17) trivial ⟨rfl, rfl, rfl, rfl, rfl, rfl, by rw [List.length_set]; rfl, rfl, rfl, trivial⟩ (.cons _ (.cons _ (.cons _ (.cons _ (.cons _ (List.perm_append_comm (l₁ := [_, _]) (l₂ := [_]))))))) ?_; (repeat first | exact sLn _ | apply sLc | apply sLd); done)
      · skip
        refine at_does (does_alloc ze_28 .agg (fun _ => (.cons (.cons (.cons (.cons (.cons .nil))))))) rfl (fun g17 => ?_)
        refine at_nil (dr_next (fun _ => (by repeat first | exact sLn _ | apply sLc | apply sLd)) ?_)
        refine dr_one 7 (by kernel_rfl) rfl ?_
        refine at_does (does_gives (X := (Option Addr × Nat) × (Option Addr × Nat)) (val := (fun q : (Option Addr × Nat) × (Option Addr × Nat) => .tuple #[.agg #[.slice q.1.1 (remN z.ns y.1).length q.1.2, .slice q.2.1 (remL z.ls y.1).length q.2.2], .int .i64 0])) (Δ := (fun q => [RowP enc4 4 70 q.1.1 q.1.2 (remN z.ns y.1), RowP enc4 4 61 q.2.1 q.2.2 (remL z.ls y.1)])) cal31 rfl rfl rfl (fun w hs => by have h9 := remove_ref z.an z.al z.cn z.cl z.ns z.ls y.1 w (hs.rows len4 (by decide) .z) (hs.rows len4 (by decide) (.s .z)) hz.valid hhas; exact h9) (fun _ => (.cons (.cons (.cons (.cons (.cons (.cons .nil)))))))) rfl (fun r9 => ?_)
        refine at_nil (dr_next (fun _ => (by repeat first | exact sLn _ | apply sLc | apply sLd)) ?_)
        refine dr_take 8 rfl (by kernel_rfl) (by repeat first | exact sLn _ | apply sLc | apply sLd) (pv_move rfl) rfl ?_
        refine dr_take 9 rfl (by kernel_rfl) (by repeat first | exact sLn _ | apply sLc | apply sLd) (pv_extract rfl rfl) rfl ?_
        refine dr_take 10 rfl (by kernel_rfl) (by repeat first | exact sLn _ | apply sLc | apply sLd) (pv_extract rfl rfl) rfl ?_
        refine dr_one 12 (by kernel_rfl) rfl ?_
        refine at_turns (by exact turns_store sz_28 rfl rfl .agg rfl rfl (.s (.s (.s (.s (.s .z))))) (.rep (.rep .done)) (.s (.s (.s (.s (.s .z)))))) ?_
        refine at_nil (dr_next (fun _ => (by repeat first | exact sLn _ | apply sLc | apply sLd)) ?_)
        refine dr_take 13 rfl (by kernel_rfl) (by repeat first | exact sLn _ | apply sLc | apply sLd) (pv_assign rfl) rfl ?_
        refine dr_done (by kernel_rfl) ?_
        first | (refine ex_meet (r9, g17) trivial ⟨rfl, rfl, rfl, rfl, rfl, rfl, by rw [List.length_set]; rfl, rfl, rfl, trivial⟩ ?_; (repeat first | exact sLn _ | apply sLc | apply sLd); done) | (refine ex_meet_p (r9, g17) trivial ⟨rfl, rfl, rfl, rfl, rfl, rfl, by rw [List.length_set]; rfl, rfl, rfl, trivial⟩ (.cons _ (.cons _ (.cons _ (.cons _ (.cons _ (List.perm_append_comm (l₁ := [_, _]) (l₂ := [_]))))))) ?_; (repeat first | exact sLn _ | apply sLc | apply sLd); done)
    · rintro ⟨⟨⟨ra, rc⟩, ⟨rb, rd⟩⟩, g17⟩ -
      refine cd_seq ?_
      refine cd_seq ?_
      refine Cd.know (fun w hs => ((hs.rows len1 (by decide) (.s (.s .z))).drop ((at_ % (z.ns.length : Int)).toNat + 1) (by omega)).nil) (fun hdn => ?_)
      refine cd_draw' 27 follows ?_
      refine dr_take 0 rfl (by kernel_rfl) (.refl _) (pv_move rfl) rfl ?_
      refine dr_take 1 rfl (by kernel_rfl) (.refl _) (pv_neq rfl rfl) rfl ?_
      refine dr_take 2 rfl (by kernel_rfl) (.refl _) (pv_move rfl) rfl ?_
      refine dr_take_g 3 rfl rfl rfl (by decide) (by kernel_rfl) (.refl _) (by exact pv_loads_box ag_28 rfl (.s (.s (.s .z))) (.take (.take .done))) rfl ?_
      refine dr_take_g 4 rfl rfl rfl (by decide) (by kernel_rfl) (.refl _) (pv_move rfl) rfl ?_
      refine dr_take_g 5 rfl rfl rfl (by decide) (by kernel_rfl) (.refl _) (pv_move rfl) rfl ?_
      refine dr_take_g 7 rfl rfl rfl (by decide) (by kernel_rfl) (.refl _) (pv_move rfl) rfl ?_
      refine dr_one 6 (by kernel_rfl) rfl ?_
      refine at_does_g rfl rfl (by decide) (does_val cal20 rfl rfl rfl (fun w hs => bound_full z.an z.al z.cn z.cl z.ns z.ls a16 c16 (z.cs.set (at_ % (z.ns.length : Int)).toNat (less_ % (at1 z.cs (at_ % (z.ns.length : Int)).toNat + 1))) (1 + wk % 5) w (hs.rows len4 (by decide) .z) (hs.rows len4 (by decide) (.s .z)) (hs.rows len1 (by decide) (.s (.s (.s (.s .z))))))) rfl (fun _ => ?_)
      refine at_nil (dr_next (fun _ => (.refl _)) ?_)
      refine dr_take_g 8 rfl rfl rfl (by decide) (by kernel_rfl) (.refl _) (pv_gtr rfl rfl) rfl ?_
      refine dr_take 9 rfl (by kernel_rfl) (.refl _) (pv_pick_f rfl (by decide) rfl) rfl ?_
      refine dr_take 10 rfl (by kernel_rfl) (.refl _) (pv_move rfl) rfl ?_
      refine dr_take_g 11 rfl rfl rfl (decide_eq_false (Int.not_lt.2 hlow)) (by kernel_rfl) (.refl _) (by exact pv_loads_box ag_28 rfl (.s (.s (.s (.s (.s (.s (.s .z))))))) (.take (.take .done))) rfl ?_
      refine dr_take_g 13 rfl rfl rfl (decide_eq_false (Int.not_lt.2 hlow)) (by kernel_rfl) (.refl _) (pv_move rfl) rfl ?_
      refine dr_take_g 14 rfl rfl rfl (decide_eq_false (Int.not_lt.2 hlow)) (by kernel_rfl) (.refl _) (pv_move rfl) rfl ?_
      refine dr_take_g 15 rfl rfl rfl (decide_eq_false (Int.not_lt.2 hlow)) (by kernel_rfl) (.refl _) (pv_cut_to Try.underlying22 cz_3 rfl rfl (by omega) (k := (z.cs.take (at_ % (z.ns.length : Int)).toNat).length) (by rw [List.length_take]; omega)) rfl ?_
      refine dr_take_g 17 rfl rfl rfl (decide_eq_false (Int.not_lt.2 hlow)) (by kernel_rfl) (.refl _) (pv_move rfl) rfl ?_
      refine dr_take_g 18 rfl rfl rfl (decide_eq_false (Int.not_lt.2 hlow)) (by kernel_rfl) (.refl _) (pv_move rfl) rfl ?_
      refine dr_take_g 19 rfl rfl rfl (decide_eq_false (Int.not_lt.2 hlow)) (by kernel_rfl) (.refl _) (by first | exact pv_add_n rfl rfl (by unfold In64; omega) | exact pv_add rfl rfl) rfl ?_
      refine dr_take_g 20 rfl rfl rfl (decide_eq_false (Int.not_lt.2 hlow)) (by kernel_rfl) (.refl _) (pv_cut_from' Try.underlying22 cz_3 rfl rfl (by omega) (k := (at_ % (z.ns.length : Int)).toNat + 1) (by omega) (l := (z.cs.drop ((at_ % (z.ns.length : Int)).toNat + 1)).length) (by rw [List.length_drop])) rfl ?_
      refine dr_take_g 22 rfl rfl rfl (decide_eq_false (Int.not_lt.2 hlow)) (by kernel_rfl) (.refl _) (pv_move rfl) rfl ?_
      refine dr_take_g 24 rfl rfl rfl (decide_eq_false (Int.not_lt.2 hlow)) (by kernel_rfl) (.refl _) (pv_move rfl) rfl ?_
      refine dr_one 12 (by kernel_rfl) rfl ?_
      refine at_does_g rfl rfl (decide_eq_false (Int.not_lt.2 hlow)) (does_list0 enc1 Try.underlying22 cz_3 (fun _ => (.cons (.cons (.cons (.cons (.cons (.cons (.cons (.cons .nil)))))))))) rfl (fun g18 => ?_)
      refine At.row0 (enc := enc1) (m := 1) (.s (.s (.s (.s (.s (.s (.s (.s .z)))))))) (.s (.s (.s (.s (.s (.s (.s (.s .z)))))))) ?_
      refine at_nil (dr_next (fun _ => (by repeat first | exact sLn _ | apply sLc | apply sLd)) ?_)
      refine dr_one 16 (by kernel_rfl) rfl ?_
      refine at_hands_g rfl rfl (decide_eq_false (Int.not_lt.2 hlow)) (does_app (ys := z.cs.take (at_ % (z.ns.length : Int)).toNat) ⟨len1, by decide, one1⟩ Try.underlying22 ap_3 rfl rfl rfl (.s (.s (.s (.s (.s (.s (.s (.s .z)))))))) (fun w hs => (hs.rows len1 (by decide) (.s (.s .z))).take (at_ % (z.ns.length : Int)).toNat) (by rw [List.length_take]; have h9 : ([] : List Int).length = 0 := rfl; omega) hcn (fun _ _ => (.s (.s (.s (.s (.s (.s (.s (.s .z)))))))))) rfl (fun a12 c12 hr5 hc5 => ?_)
      refine at_nil (dr_next (fun _ => (by repeat first | exact sLn _ | apply sLc | apply sLd)) ?_)
      refine dr_one 21 (by kernel_rfl) rfl ?_
      refine at_hands_g rfl rfl (decide_eq_false (Int.not_lt.2 hlow)) (does_app (ys := z.cs.drop ((at_ % (z.ns.length : Int)).toNat + 1)) ⟨len1, by decide, one1⟩ Try.underlying22 ap_3 rfl rfl rfl (.s (.s (.s (.s (.s (.s (.s (.s .z)))))))) (fun w hs => (hs.rows len1 (by decide) (.s (.s .z))).drop ((at_ % (z.ns.length : Int)).toNat + 1) (by omega)) (by rw [List.length_append, List.length_take, List.length_drop]; have h9 : ([] : List Int).length = 0 := rfl; omega) hdn (fun _ _ => (.s (.s (.s (.s (.s (.s (.s (.s .z)))))))))) rfl (fun a13 c13 hr6 hc6 => ?_)
      refine at_nil (dr_next (fun _ => (by repeat first | exact sLn _ | apply sLc | apply sLd)) ?_)
      refine dr_one 23 (by kernel_rfl) rfl ?_
      refine at_does_g rfl rfl (decide_eq_false (Int.not_lt.2 hlow)) (does_val cal20 rfl rfl rfl (fun w hs => bound_full ra rb rc rd (remN z.ns y.1) (remL z.ls y.1) a13 c13 ([] ++ z.cs.take (at_ % (z.ns.length : Int)).toNat ++ z.cs.drop ((at_ % (z.ns.length : Int)).toNat + 1)) (1 + wk % 5) w (hs.rows len4 (by decide) (.s (.s (.s (.s (.s .z)))))) (hs.rows len4 (by decide) (.s (.s (.s (.s (.s (.s .z))))))) (hs.rows len1 (by decide) (.s (.s (.s (.s (.s (.s (.s (.s .z))))))))))) rfl (fun _ => ?_)
      refine at_nil (dr_next (fun _ => (by repeat first | exact sLn _ | apply sLc | apply sLd)) ?_)
      refine dr_take_g 25 rfl rfl rfl (decide_eq_false (Int.not_lt.2 hlow)) (by kernel_rfl) (by repeat first | exact sLn _ | apply sLc | apply sLd) (pv_gtr rfl rfl) rfl ?_
      refine dr_take 26 rfl (by kernel_rfl) (by repeat first | exact sLn _ | apply sLc | apply sLd) (pv_pick_f rfl (decide_eq_false (Int.not_lt.2 hlow)) rfl) rfl ?_
      refine dr_done (by kernel_rfl) ?_
      refine ex_go ?_
      refine cd_else rfl (decide_eq_false (Int.not_lt.2 hrem)) ?_
      refine cd_skip ?_
      refine ex_go ?_
      refine cd_seq ?_
      refine cd_seq ?_
      refine cd_region ?_
      refine at_pure (pv_field0 fa_28_1 rfl (r := 1) rfl) rfl ?_
      refine at_pure (by exact pv_load ld_26 rfl (box_cell (.s (.s (.s .z))) (.s .z))) rfl ?_
      refine at_pure (pv_len Try.underlying26 rfl) rfl ?_
      refine at_pure (pv_eql rfl rfl) rfl ?_
      refine at_nil ?_
      refine ex_go ?_
      refine cd_if rfl (fun hl0 => ?_) (fun hl0 => ?_)
      · skip
        refine cd_seq ?_
        refine cd_region ?_
        refine at_pure (pv_assign rfl) rfl ?_
        refine at_nil ?_
        refine ex_go ?_
        refine cd_ret ?_
        refine ex_then_ret ?_
        exact end_ret1 rfl rfl (fun w hs => ⟨rfl, hs.keep⟩)
      · have hl1 : 0 < z.ls.length := by simp only [beq_eq_false_iff_ne] at hl0; omega
        have hjp := Int.emod_nonneg lk (show (z.ls.length : Int) ≠ 0 by omega)
        have hjq := Int.emod_lt_of_pos lk (show (0 : Int) < (z.ls.length : Int) by omega)
        obtain ⟨l2, hl2⟩ := get_of (xs := z.ls) (k := (lk % (z.ls.length : Int)).toNat) (by omega)
        have hm2 := List.mem_of_getElem? hl2
        have hpt2 := hg.port l2 hm2
        have hco2 : z.ls.contains l2 = true := List.contains_iff_mem.2 hm2
        have hdis := bound_dis l2 hp5
        refine cd_skip ?_
        refine ex_go ?_
        refine cd_cut (σ := ((Option Addr × Nat) × (Option Addr × Nat)) × Nat) (fun s => [(2, .int .i64 lk), (11, Value.pointer (some ⟨g13, 0, none⟩)), (12, .slice z.ac z.cs.length z.cc), (13, .int .i64 (1 + wk % 5)), (14, .int .i64 (boundS z.ns z.ls z.cs (1 + wk % 5))), (15, .int .i64 (at_ % (z.ns.length : Int))), (16, .slice a16 (z.cs.set (at_ % (z.ns.length : Int)).toNat (less_ % (at1 z.cs (at_ % (z.ns.length : Int)).toNat + 1))).length c16), (18, .int .i64 0), (19, Value.pointer (some ⟨s.2, 0, none⟩))]) (fun s => [RowP enc4 4 70 z.an z.cn z.ns, RowP enc4 4 61 z.al z.cl z.ls, RowP enc1 1 3 z.ac z.cc z.cs, Box g13 [.slice z.an z.ns.length z.cn, .slice z.al z.ls.length z.cl] 28, RowP enc1 1 3 a16 c16 (z.cs.set (at_ % (z.ns.length : Int)).toNat (less_ % (at1 z.cs (at_ % (z.ns.length : Int)).toNat + 1))), RowP enc4 4 70 ra rc (remN z.ns y.1), RowP enc4 4 61 rb rd (remL z.ls y.1), Box g17 [.slice ra (remN z.ns y.1).length rc, .slice rb (remL z.ls y.1).length rd] 28, RowP enc1 1 3 a13 c13 ([] ++ z.cs.take (at_ % (z.ns.length : Int)).toNat ++ z.cs.drop ((at_ % (z.ns.length : Int)).toNat + 1)), RowP enc4 4 70 s.1.1.1 s.1.1.2 z.ns, RowP enc4 4 61 s.1.2.1 s.1.2.2 (disL z.ls l2), Box s.2 [.slice s.1.1.1 z.ns.length s.1.1.2, .slice s.1.2.1 (disL z.ls l2).length s.1.2.2] 28]) (fun _ => True) ?_ ?_
        · skip
          refine cd_draw' 17 follows ?_
          refine dr_take 0 rfl (by kernel_rfl) (.refl _) (by exact pv_loads_box ag_28 rfl (.s (.s (.s .z))) (.take (.take .done))) rfl ?_
          refine dr_take 1 rfl (by kernel_rfl) (.refl _) (pv_field0 fa_28_1 rfl (r := 1) rfl) rfl ?_
          refine dr_take 2 rfl (by kernel_rfl) (.refl _) (by exact pv_load ld_26 rfl (box_cell (.s (.s (.s .z))) (.s .z))) rfl ?_
          refine dr_take 3 rfl (by kernel_rfl) (.refl _) (pv_move rfl) rfl ?_
          refine dr_take 4 rfl (by kernel_rfl) (.refl _) (pv_field0 fa_28_1 rfl (r := 1) rfl) rfl ?_
          refine dr_take 5 rfl (by kernel_rfl) (.refl _) (by exact pv_load ld_26 rfl (box_cell (.s (.s (.s .z))) (.s .z))) rfl ?_
          refine dr_take 6 rfl (by kernel_rfl) (.refl _) (pv_len Try.underlying26 rfl) rfl ?_
          refine dr_two 7 14 (by kernel_rfl) rfl rfl ?_ ?_
          · skip
            refine at_does (does_val cal13 rfl rfl rfl (fun w hs => mod_any _ _ w (by first | decide | omega))) rfl (fun _ => ?_)
            refine at_nil (dr_next (fun _ => (.refl _)) ?_)
            refine dr_take 8 rfl (by kernel_rfl) (.refl _) (pv_ix Try.underlying26 cz_61 rfl rfl (by first | omega | (simp only [decide_eq_true_eq, decide_eq_false_iff_not] at *; omega)) hrlk (k := (lk % (z.ls.length : Int)).toNat) (by omega)) rfl ?_
            refine dr_take 9 rfl (by kernel_rfl) (.refl _) (pv_elems ag_61 rfl (RowP.gets len4 (by decide) (.s .z) hl2) rfl) rfl ?_
            refine dr_two 10 14 (by kernel_rfl) rfl rfl ?_ ?_
            · skip
              refine at_does (does_gives (X := (Option Addr × Nat) × (Option Addr × Nat)) (val := (fun q : (Option Addr × Nat) × (Option Addr × Nat) => .tuple #[.agg #[.slice q.1.1 z.ns.length q.1.2, .slice q.2.1 (disL z.ls l2).length q.2.2], .int .i64 0])) (Δ := (fun q => [RowP enc4 4 70 q.1.1 q.1.2 z.ns, RowP enc4 4 61 q.2.1 q.2.2 (disL z.ls l2)])) cal32 rfl rfl rfl (fun w hs => by have h9 := disconnect_ref z.an z.al z.cn z.cl z.ns z.ls l2 w (hs.rows len4 (by decide) .z) (hs.rows len4 (by decide) (.s .z)) hz.valid hpt2 hco2; exact h9) (fun _ => (.cons (.cons (.cons (.cons (.cons (.cons (.cons (.cons (.cons .nil))))))))))) rfl (fun d9 => ?_)
              refine at_nil (dr_next (fun _ => (by repeat first | exact sLn _ | apply sLc | apply sLd)) ?_)
              refine dr_take 11 rfl (by kernel_rfl) (by repeat first | exact sLn _ | apply sLc | apply sLd) (pv_move rfl) rfl ?_
              refine dr_take 12 rfl (by kernel_rfl) (by repeat first | exact sLn _ | apply sLc | apply sLd) (pv_extract rfl rfl) rfl ?_
              refine dr_take 13 rfl (by kernel_rfl) (by repeat first | exact sLn _ | apply sLc | apply sLd) (pv_extract rfl rfl) rfl ?_
              refine dr_one 14 (by kernel_rfl) rfl ?_
              refine at_does (does_alloc ze_28 .agg (fun _ => (.cons (.cons (.cons (.cons (.cons (.cons (.cons (.cons (.cons (.cons (.cons .nil))))))))))))) rfl (fun g19 => ?_)
              refine at_nil (dr_next (fun _ => (by repeat first | exact sLn _ | apply sLc | apply sLd)) ?_)
              refine dr_one 15 (by kernel_rfl) rfl ?_
              refine at_turns (by exact turns_store sz_28 rfl rfl .agg rfl rfl (.s (.s (.s (.s (.s (.s (.s (.s (.s (.s (.s .z))))))))))) (.rep (.rep .done)) (.s (.s (.s (.s (.s (.s (.s (.s (.s (.s (.s .z)))))))))))) ?_
              refine at_nil (dr_next (fun _ => (by repeat first | exact sLn _ | apply sLc | apply sLd)) ?_)
              refine dr_take 16 rfl (by kernel_rfl) (by repeat first | exact sLn _ | apply sLc | apply sLd) (pv_assign rfl) rfl ?_
              refine dr_done (by kernel_rfl) ?_
              first | (refine ex_meet (d9, g19) trivial ⟨rfl, rfl, rfl, rfl, rfl, rfl, rfl, rfl, rfl, trivial⟩ ?_; (repeat first | exact sLn _ | apply sLc | apply sLd); done) | (refine ex_meet_p (d9, g19) trivial ⟨rfl, rfl, rfl, rfl, rfl, rfl, rfl, rfl, rfl, trivial⟩ (.cons _ (.cons _ (.cons _ (.cons _ (.cons _ (.cons _ (.cons _ (.cons _ (.cons _ (List.perm_append_comm (l₁ := [_, _]) (l₂ := [_]))))))))))) ?_; (repeat first | exact sLn _ | apply sLc | apply sLd); done)
            · skip
              refine at_does (does_alloc ze_28 .agg (fun _ => (.cons (.cons (.cons (.cons (.cons (.cons (.cons (.cons (.cons .nil))))))))))) rfl (fun g19 => ?_)
              refine at_nil (dr_next (fun _ => (by repeat first | exact sLn _ | apply sLc | apply sLd)) ?_)
              refine dr_one 10 (by kernel_rfl) rfl ?_
              refine at_does (does_gives (X := (Option Addr × Nat) × (Option Addr × Nat)) (val := (fun q : (Option Addr × Nat) × (Option Addr × Nat) => .tuple #[.agg #[.slice q.1.1 z.ns.length q.1.2, .slice q.2.1 (disL z.ls l2).length q.2.2], .int .i64 0])) (Δ := (fun q => [RowP enc4 4 70 q.1.1 q.1.2 z.ns, RowP enc4 4 61 q.2.1 q.2.2 (disL z.ls l2)])) cal32 rfl rfl rfl (fun w hs => by have h9 := disconnect_ref z.an z.al z.cn z.cl z.ns z.ls l2 w (hs.rows len4 (by decide) .z) (hs.rows len4 (by decide) (.s .z)) hz.valid hpt2 hco2; exact h9) (fun _ => (.cons (.cons (.cons (.cons (.cons (.cons (.cons (.cons (.cons (.cons .nil)))))))))))) rfl (fun d9 => ?_)
              refine at_nil (dr_next (fun _ => (by repeat first | exact sLn _ | apply sLc | apply sLd)) ?_)
              refine dr_take 11 rfl (by kernel_rfl) (by repeat first | exact sLn _ | apply sLc | apply sLd) (pv_move rfl) rfl ?_
              refine dr_take 12 rfl (by kernel_rfl) (by repeat first | exact sLn _ | apply sLc | apply sLd) (pv_extract rfl rfl) rfl ?_
              refine dr_take 13 rfl (by kernel_rfl) (by repeat first | exact sLn _ | apply sLc | apply sLd) (pv_extract rfl rfl) rfl ?_
              refine dr_one 15 (by kernel_rfl) rfl ?_
              refine at_turns (by exact turns_store sz_28 rfl rfl .agg rfl rfl (.s (.s (.s (.s (.s (.s (.s (.s (.s .z))))))))) (.rep (.rep .done)) (.s (.s (.s (.s (.s (.s (.s (.s (.s .z)))))))))) ?_
              refine at_nil (dr_next (fun _ => (by repeat first | exact sLn _ | apply sLc | apply sLd)) ?_)
              refine dr_take 16 rfl (by kernel_rfl) (by repeat first | exact sLn _ | apply sLc | apply sLd) (pv_assign rfl) rfl ?_
              refine dr_done (by kernel_rfl) ?_
              first | (refine ex_meet (d9, g19) trivial ⟨rfl, rfl, rfl, rfl, rfl, rfl, rfl, rfl, rfl, trivial⟩ ?_; (repeat first | exact sLn _ | apply sLc | apply sLd); done) | (refine ex_meet_p (d9, g19) trivial ⟨rfl, rfl, rfl, rfl, rfl, rfl, rfl, rfl, rfl, trivial⟩ (.cons _ (.cons _ (.cons _ (.cons _ (.cons _ (.cons _ (.cons _ (.cons _ (.cons _ (List.perm_append_comm (l₁ := [_, _]) (l₂ := [_]))))))))))) ?_; (repeat first | exact sLn _ | apply sLc | apply sLd); done)
          · skip
            refine at_does (does_alloc ze_28 .agg (fun _ => (.cons (.cons (.cons (.cons (.cons (.cons (.cons (.cons (.cons .nil))))))))))) rfl (fun g19 => ?_)
            refine at_nil (dr_next (fun _ => (by repeat first | exact sLn _ | apply sLc | apply sLd)) ?_)
            refine dr_one 7 (by kernel_rfl) rfl ?_
            refine at_does (does_val cal13 rfl rfl rfl (fun w hs => mod_any _ _ w (by first | decide | omega))) rfl (fun _ => ?_)
            refine at_nil (dr_next (fun _ => (by repeat first | exact sLn _ | apply sLc | apply sLd)) ?_)
            refine dr_take 8 rfl (by kernel_rfl) (by repeat first | exact sLn _ | apply sLc | apply sLd) (pv_ix Try.underlying26 cz_61 rfl rfl (by first | omega | (simp only [decide_eq_true_eq, decide_eq_false_iff_not] at *; omega)) hrlk (k := (lk % (z.ls.length : Int)).toNat) (by omega)) rfl ?_
            refine dr_take 9 rfl (by kernel_rfl) (by repeat first | exact sLn _ | apply sLc | apply sLd) (pv_elems ag_61 rfl (RowP.gets len4 (by decide) (.s .z) hl2) rfl) rfl ?_
            refine dr_one 10 (by kernel_rfl) rfl ?_
            refine at_does (does_gives (X := (Option Addr × Nat) × (Option Addr × Nat)) (val := (fun q : (Option Addr × Nat) × (Option Addr × Nat) => .tuple #[.agg #[.slice q.1.1 z.ns.length q.1.2, .slice q.2.1 (disL z.ls l2).length q.2.2], .int .i64 0])) (Δ := (fun q => [RowP enc4 4 70 q.1.1 q.1.2 z.ns, RowP enc4 4 61 q.2.1 q.2.2 (disL z.ls l2)])) cal32 rfl rfl rfl (fun w hs => by have h9 := disconnect_ref z.an z.al z.cn z.cl z.ns z.ls l2 w (hs.rows len4 (by decide) .z) (hs.rows len4 (by decide) (.s .z)) hz.valid hpt2 hco2; exact h9) (fun _ => (.cons (.cons (.cons (.cons (.cons (.cons (.cons (.cons (.cons (.cons .nil)))))))))))) rfl (fun d9 => ?_)
            refine at_nil (dr_next (fun _ => (by repeat first | exact sLn _ | apply sLc | apply sLd)) ?_)
            refine dr_take 11 rfl (by kernel_rfl) (by repeat first | exact sLn _ | apply sLc | apply sLd) (pv_move rfl) rfl ?_
            refine dr_take 12 rfl (by kernel_rfl) (by repeat first | exact sLn _ | apply sLc | apply sLd) (pv_extract rfl rfl) rfl ?_
            refine dr_take 13 rfl (by kernel_rfl) (by repeat first | exact sLn _ | apply sLc | apply sLd) (pv_extract rfl rfl) rfl ?_
            refine dr_one 15 (by kernel_rfl) rfl ?_
            refine at_turns (by exact turns_store sz_28 rfl rfl .agg rfl rfl (.s (.s (.s (.s (.s (.s (.s (.s (.s .z))))))))) (.rep (.rep .done)) (.s (.s (.s (.s (.s (.s (.s (.s (.s .z)))))))))) ?_
            refine at_nil (dr_next (fun _ => (by repeat first | exact sLn _ | apply sLc | apply sLd)) ?_)
            refine dr_take 16 rfl (by kernel_rfl) (by repeat first | exact sLn _ | apply sLc | apply sLd) (pv_assign rfl) rfl ?_
            refine dr_done (by kernel_rfl) ?_
            first | (refine ex_meet (d9, g19) trivial ⟨rfl, rfl, rfl, rfl, rfl, rfl, rfl, rfl, rfl, trivial⟩ ?_; (repeat first | exact sLn _ | apply sLc | apply sLd); done) | (refine ex_meet_p (d9, g19) trivial ⟨rfl, rfl, rfl, rfl, rfl, rfl, rfl, rfl, rfl, trivial⟩ (.cons _ (.cons _ (.cons _ (.cons _ (.cons _ (.cons _ (.cons _ (.cons _ (.cons _ (List.perm_append_comm (l₁ := [_, _]) (l₂ := [_]))))))))))) ?_; (repeat first | exact sLn _ | apply sLc | apply sLd); done)
        · rintro ⟨⟨⟨da, dc⟩, ⟨db, dd⟩⟩, g19⟩ -
          refine cd_seq ?_
          refine cd_region ?_
          refine at_pure (pv_move rfl) rfl ?_
          refine at_pure (pv_eql rfl rfl) rfl ?_
          refine at_pure (pv_move rfl) rfl ?_
          refine at_pure_g rfl rfl (by decide) (by exact pv_loads_box ag_28 rfl (.s (.s (.s (.s (.s (.s (.s (.s (.s (.s (.s .z))))))))))) (.take (.take .done))) rfl ?_
          refine at_pure_g rfl rfl (by decide) (pv_move rfl) rfl ?_
          refine at_pure_g rfl rfl (by decide) (pv_move rfl) rfl ?_
          refine at_does_g rfl rfl (by decide) (does_val cal20 rfl rfl rfl (fun w hs => bound_full da db dc dd z.ns (disL z.ls l2) z.ac z.cc z.cs (1 + wk % 5) w (hs.rows len4 (by decide) (.s (.s (.s (.s (.s (.s (.s (.s (.s .z)))))))))) (hs.rows len4 (by decide) (.s (.s (.s (.s (.s (.s (.s (.s (.s (.s .z))))))))))) (hs.rows len1 (by decide) (.s (.s .z))))) rfl (fun _ => ?_)
          refine at_pure_g rfl rfl (by decide) (pv_move rfl) rfl ?_
          refine at_pure_g rfl rfl (by decide) (pv_leq rfl rfl) rfl ?_
          refine at_pure (pv_pick_t rfl (by decide) rfl) rfl ?_
          refine at_pure (pv_assign rfl) rfl ?_
          refine at_nil ?_
          refine ex_go ?_
          refine cd_ret ?_
          exact end_ret1 rfl rfl (fun w hs => ⟨congrArg (fun b => Ending.returned (.bool b)) (decide_eq_true hdis), hs.keep⟩)

end Go.Proofs.Ytkejdfnpbkdllaa
