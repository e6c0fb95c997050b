/- The law ScheduleValid. -/
import Derived.Test.YtkejdfnpbkdllaaLaw3F
import Derived.Test.YtkejdfnpbkdllaaSan25
import Derived.Test.YtkejdfnpbkdllaaVal2
import Derived.Test.YtkejdfnpbkdllaaVal
import Derived.Test.YtkejdfnpbkdllaaComP
set_option linter.unusedVariables false
set_option linter.unusedSimpArgs false
set_option maxRecDepth 20000
namespace Go.Proofs.Ytkejdfnpbkdllaa
open Go Go.RowKit Go.Proofs.YtkejdfnpbkdllaaV
theorem does_list0 {α : Type} (enc : α → List Value) {P : Program} {S : List Nat} {w0 : World} {Γ : List Piece} {Γg : Nat → List Piece} {L : List (Nat × Value)} {n m : Nat} {T e ty : TypeId} (ht : P.underlying T = some (.slice e)) (hm : (Nat.beq (P.cellsOf e) m && !Nat.beq m 0) = true) (hΓ : ∀ g, Cat Γ [Box g [] e] (Γg g)) :
    Does P n L S w0 Γ (.buildSlice T 0 #[]) ty (fun g : Nat => .slice (some ⟨g, 0, none⟩) 0 0) Γg := fun a w dst pos after g hf hs =>
  .inl ⟨w.heap.size, w.alloc (.cells #[] e (0, 0)), by
    simp only [Bool.and_eq_true, Bool.not_eq_true'] at hm
    have hm1 : P.cellsOf e = m := by simpa using hm.1
    obtain ⟨j, hj1, hj2⟩ := cellsOf_info (P := P) (t := e) (by rw [hm1]; exact hm.2)
    simp [execOp, Instr.buildSlice, Sem.run_bind, run_underlying ht, sizeOf, typeInfo, hj1, newRow, newObj, Instr.fill, Sem.run]
    rw [show Array.range 0 = #[] by decide, Array.map_empty], (hΓ w.heap.size).eq ▸ hs.newBox [] e⟩
/-- An empty list of our own is a row. -/
theorem At.row0 {α : Type} {enc : α → List Value} {m : Nat} {P : Program} {S : List Nat} {w0 : World} {Γ Γ' : List Piece} {L : List (Nat × Value)} {n : Nat} {ops : Array Oper} {rest : List Oper} {Q : Exit → Act → World → Prop} {i g : Nat} {e : TypeId} (hin : Nth Γ i (Box g [] e)) (hch : Chg Γ i (RowP enc m e (some ⟨g, 0, none⟩) 0 []) Γ') (h : At P ops Q rest n L S w0 Γ') : At P ops Q rest n L S w0 Γ := fun a w hf hs => h a w hf (hch.eq ▸ hs.turn hin.get (.refl _ _) (by
    have hb := hs.box hin.get
    refine ⟨by simp, .inr ⟨g, 0, #[], rfl, Nat.zero_le _, hb, Nat.le_refl _, by simp [maxLen], by simp, by simp⟩⟩) (fun j hj => by
    have hj' : j = g := by simpa [RowP, blk] using hj
    subst hj'
    exact ⟨.inl (by simp [Box]), (hs.ins _ (List.mem_of_getElem? hin.get) j (by simp [Box])).1⟩))

structure YS where
  ra : Option Addr
  rc : Nat
  ry : List Q4
  ya : Option Addr
  yc : Nat
  yl : Nat
  ys : List Q4
structure YOk (s : YS) : Prop where
  len : s.ys.length = s.yl
  sl : ∀ w, Sl [] enc4 4 w s.ra s.rc s.ry → Sl [] enc4 4 w s.ya s.yc s.ys

set_option maxRecDepth 10000 in
set_option maxHeartbeats 4000000 in
theorem scheduleValid_any (a0 : Option Addr) (len0 cap0 : Nat) (c1 : Option Addr) (cc1 : Nat) (raw : List Q4) (wk what at_ : Int) (w : World) (hI : Ints [] w a0 len0) (hlen : len0 ≤ 17592186044416) (hraw : Sl [] enc4 4 w c1 cc1 raw) : Calls Try.prog 3 [.slice a0 len0 cap0, .slice c1 raw.length cc1, .int .i64 wk, .int .i64 what, .int .i64 at_].toArray w (Val (.bool true) w) := by
  refine calls_body (n := 154) Try.func3 rfl rfl rfl (St.init _ []) ?_
  refine cd_seq ?_
  refine cd_region ?_
  refine at_pure (pv_assign rfl) rfl ?_
  refine at_nil ?_
  refine ex_go ?_
  refine cd_seq ?_
  refine cd_seq ?_
  refine cd_region ?_
  refine at_does (does_val cal10 rfl rfl rfl (fun w hs => sane_25 w)) rfl (fun _ => ?_)
  refine at_pure (pv_not rfl) rfl ?_
  refine at_nil ?_
  refine ex_go ?_
  refine cd_else rfl rfl ?_
  refine cd_skip ?_
  refine ex_go ?_
  refine cd_seq ?_
  refine cd_seq ?_
  refine cd_region ?_
  refine at_pure (pv_move rfl) rfl ?_
  refine at_pure (pv_len Try.underlying23 rfl) rfl ?_
  refine at_pure (pv_gtr rfl rfl) rfl ?_
  refine at_nil ?_
  refine ex_go ?_
  refine cd_if rfl (fun hb1 => ?_) (fun hb1 => ?_)
  · skip
    refine cd_seq ?_
    refine cd_region ?_
    refine at_pure (pv_assign rfl) rfl ?_
    refine at_nil ?_
    refine ex_go ?_
    refine cd_ret ?_
    refine ex_then_ret ?_
    exact end_ret1 rfl rfl (fun w hs => ⟨rfl, hs.keep⟩)
  · skip
    refine cd_skip ?_
    refine ex_go ?_
    refine cd_seq ?_
    refine cd_region ?_
    refine at_pure (pv_move rfl) rfl ?_
    refine at_does (does_gives (X := Nat) (val := fun g => Value.pointer (some ⟨g, 0, none⟩)) (Δ := fun g => [Box g [.slice a0 len0 cap0, .int .i64 0] 76]) cal12 rfl rfl rfl (fun w hs => by have h9 := deck_new a0 len0 cap0 w; exact h9) (fun _ => .nil)) rfl (fun gd => ?_)
    refine at_mades (does_mades (X := MZ) (val := fun z => .tuple #[.agg #[.slice z.an z.ns.length z.cn, .slice z.al z.ls.length z.cl], .slice z.ac z.cs.length z.cc]) (Δ := fun z => [RowP enc4 4 70 z.an z.cn z.ns, RowP enc4 4 61 z.al z.cl z.ls, RowP enc1 1 3 z.ac z.cc z.cs]) (good := MillOk) cal11 rfl rfl rfl .z (fun w hs => by have h9 := graph_any gd a0 len0 cap0 0 w (hs.box (i := 0) rfl) (hI.beside hs .z) (by omega) hlen; exact h9) (fun _ => rfl)) rfl (fun z hz => ?_)
    refine at_pure (pv_move rfl) rfl ?_
    refine at_pure (pv_extract rfl rfl) rfl ?_
    refine at_pure (pv_extract rfl rfl) rfl ?_
    refine at_does (does_alloc ze_28 .agg (fun _ => (.cons (.cons (.cons .nil))))) rfl (fun g13 => ?_)
    refine at_turns (by exact turns_store sz_28 rfl rfl .agg rfl rfl (.s (.s (.s .z))) (.rep (.rep .done)) (.s (.s (.s .z)))) ?_
    refine at_pure (pv_assign rfl) rfl ?_
    refine at_nil ?_
    refine ex_go ?_
    refine cd_seq ?_
    refine cd_region ?_
    refine at_pure (pv_move rfl) rfl ?_
    refine at_does (does_val cal13 rfl rfl rfl (fun w hs => mod_any _ _ w (by first | decide | omega))) rfl (fun _ => ?_)
    refine at_pure (by first | exact pv_add_n rfl rfl (by unfold In64; omega) | exact pv_add rfl rfl) rfl ?_
    refine at_pure (pv_assign rfl) rfl ?_
    refine at_nil ?_
    refine ex_go ?_
    refine cd_seq ?_
    refine cd_region ?_
    refine at_pure (by exact pv_loads_box ag_28 rfl (.s (.s (.s .z))) (.take (.take .done))) rfl ?_
    refine at_pure (pv_move rfl) rfl ?_
    refine at_pure (pv_move rfl) rfl ?_
    refine at_does (does_gives (X := Option Addr × Nat) (val := fun u => .tuple #[.slice u.1 (compO z.ns z.ls z.cs (1 + wk % 4)).length u.2, .int .i64 (compE z.ns z.ls z.cs (1 + wk % 4))]) (Δ := fun u => [RowP enc4 4 39 u.1 u.2 (compO z.ns z.ls z.cs (1 + wk % 4))]) cal14 rfl rfl rfl (fun w hs => by have h9 := compileR_full z.an z.al z.cn z.cl z.ns z.ls z.ac z.cc z.cs (1 + wk % 4) w (hs.rows len4 (by decide) .z) (hs.rows len4 (by decide) (.s .z)) (hs.rows len1 (by decide) (.s (.s .z))); exact h9) (fun _ => (.cons (.cons (.cons (.cons .nil)))))) rfl (fun u => ?_)
    refine at_pure (pv_move rfl) rfl ?_
    refine at_pure (pv_extract rfl rfl) rfl ?_
    refine at_pure (pv_extract rfl rfl) rfl ?_
    refine at_pure (pv_assign rfl) rfl ?_
    refine at_pure (pv_assign rfl) rfl ?_
    refine at_nil ?_
    refine ex_go ?_
    refine cd_seq ?_
    refine cd_region ?_
    refine at_does (does_list0 enc4 Try.underlying23 cz_39 (fun _ => (.cons (.cons (.cons (.cons (.cons .nil))))))) rfl (fun g15 => ?_)
    refine At.row0 (enc := enc4) (m := 4) (.s (.s (.s (.s (.s .z))))) (.s (.s (.s (.s (.s .z))))) ?_
    refine at_pure (pv_move rfl) rfl ?_
    refine At.know (fun w hs => (hs.rows len4 (by decide) (.s (.s (.s (.s .z))))).nil) (fun hun => ?_)
    refine at_hands (does_app (ys := (compO z.ns z.ls z.cs (1 + wk % 4))) ⟨len4, by decide, one4⟩ Try.underlying23 ap_39 rfl rfl rfl (.s (.s (.s (.s (.s .z))))) (fun w hs => hs.rows len4 (by decide) (.s (.s (.s (.s .z))))) (by have h8 := compO_len z.ns z.ls z.cs (1 + wk % 4); have h9 : ([] : List Q4).length = 0 := rfl; omega) hun (fun _ _ => (.s (.s (.s (.s (.s .z))))))) rfl (fun a16 c16 hr2 hc2 => ?_)
    rw [List.nil_append]
    refine at_pure (pv_assign rfl) rfl ?_
    refine At.know (fun w hs => (hs.rows len4 (by decide) (.s (.s (.s (.s (.s .z)))))).real) (fun hrl => ?_)
    refine at_nil ?_
    refine ex_go ?_
    refine cd_cut (σ := YS) (fun s => [(1, .slice c1 raw.length cc1), (2, .int .i64 wk), (11, Value.pointer (some ⟨g13, 0, none⟩)), (12, .slice z.ac z.cs.length z.cc), (13, .int .i64 (1 + wk % 4)), (14, .slice u.1 (compO z.ns z.ls z.cs (1 + wk % 4)).length u.2), (16, .slice s.ya s.yl s.yc)]) (fun s => [RowP enc4 4 70 z.an z.cn z.ns, RowP enc4 4 61 z.al z.cl z.ls, RowP enc1 1 3 z.ac z.cc z.cs, Box g13 [.slice z.an z.ns.length z.cn, .slice z.al z.ls.length z.cl] 28, RowP enc4 4 39 u.1 u.2 (compO z.ns z.ls z.cs (1 + wk % 4)), RowP enc4 4 39 s.ra s.rc s.ry]) YOk ?_ ?_
    · skip
      refine cd_seq ?_
      refine cd_region ?_
      refine at_pure (pv_move rfl) rfl ?_
      refine at_pure (pv_len Try.underlying23 rfl) rfl ?_
      refine at_pure (pv_gtr rfl rfl) rfl ?_
      refine at_nil ?_
      refine ex_go ?_
      refine cd_if rfl (fun hlen1 => ?_) (fun hlen1 => ?_)
      · skip
        refine cd_seq ?_
        have hlen0 : 0 < (compO z.ns z.ls z.cs (1 + wk % 4)).length := by simpa using hlen1
        have hkp := Int.emod_nonneg at_ (show ((compO z.ns z.ls z.cs (1 + wk % 4)).length : Int) ≠ 0 by omega)
        have hkq := Int.emod_lt_of_pos at_ (show (0 : Int) < ((compO z.ns z.ls z.cs (1 + wk % 4)).length : Int) by omega)
        have hkl : (at_ % ((compO z.ns z.ls z.cs (1 + wk % 4)).length : Int)).toNat < (compO z.ns z.ls z.cs (1 + wk % 4)).length := by omega
        obtain ⟨y, hy⟩ := get_of hkl
        have hcl := compO_len z.ns z.ls z.cs (1 + wk % 4)
        refine cd_region ?_
        refine at_pure (pv_move rfl) rfl ?_
        refine at_pure (pv_move rfl) rfl ?_
        refine at_pure (pv_move rfl) rfl ?_
        refine at_pure (pv_len Try.underlying23 rfl) rfl ?_
        refine at_does (does_val cal13 rfl rfl rfl (fun w hs => mod_any _ _ w (by first | decide | omega))) rfl (fun _ => ?_)
        refine at_pure (pv_ix Try.underlying23 cz_39 rfl rfl (by first | omega | (simp only [decide_eq_true_eq, decide_eq_false_iff_not] at *; omega)) hrl (k := (at_ % ((compO z.ns z.ls z.cs (1 + wk % 4)).length : Int)).toNat) (by omega)) rfl ?_
        refine at_pure (pv_assign rfl) rfl ?_
        refine at_nil ?_
        refine ex_go ?_
        refine cd_seq ?_
        refine cd_region ?_
        refine at_pure (pv_move rfl) rfl ?_
        refine at_does (does_val cal13 rfl rfl rfl (fun w hs => mod_any _ _ w (by first | decide | omega))) rfl (fun _ => ?_)
        refine at_nil ?_
        refine ex_go ?_
        refine cd_block ?_
        refine cd_seq ?_
        refine cd_region ?_
        refine at_pure (pv_eql rfl rfl) rfl ?_
        refine at_pure (pv_assign rfl) rfl ?_
        refine at_nil ?_
        refine ex_go ?_
        refine cd_if rfl (fun hb3 => ?_) (fun hb3 => ?_)
        · skip
          refine cd_draw 17 [RowP enc4 4 70 z.an z.cn z.ns, RowP enc4 4 61 z.al z.cl z.ls, RowP enc1 1 3 z.ac z.cc z.cs, Box g13 [.slice z.an z.ns.length z.cn, .slice z.al z.ls.length z.cl] 28] follows ?_
          refine dr_take 0 rfl (by kernel_rfl) (by repeat first | exact sLn _ | apply sLc | apply sLd) (pv_move rfl) rfl ?_
          refine dr_take 1 rfl (by kernel_rfl) (by repeat first | exact sLn _ | apply sLc | apply sLd) (pv_move rfl) rfl ?_
          refine dr_take 2 rfl (by kernel_rfl) (by repeat first | exact sLn _ | apply sLc | apply sLd) (pv_move rfl) rfl ?_
          refine dr_take 3 rfl (by kernel_rfl) (by repeat first | exact sLn _ | apply sLc | apply sLd) (pv_nilCheck rfl) rfl ?_
          refine dr_take 4 rfl (by kernel_rfl) (by repeat first | exact sLn _ | apply sLc | apply sLd) (pv_fieldAddr fa_39_2 rfl) rfl ?_
          refine dr_take 7 rfl (by kernel_rfl) (by repeat first | exact sLn _ | apply sLc | apply sLd) (pv_move rfl) rfl ?_
          refine dr_take 8 rfl (by kernel_rfl) (by repeat first | exact sLn _ | apply sLc | apply sLd) (pv_nilCheck rfl) rfl ?_
          refine dr_take 9 rfl (by kernel_rfl) (by repeat first | exact sLn _ | apply sLc | apply sLd) (pv_fieldAddr fa_39_3 rfl) rfl ?_
          refine dr_two 5 10 (by kernel_rfl) rfl rfl ?_ ?_
          · skip
            refine at_pure (pv_elem ld_3 rfl (RowP.get len4 (by decide) (.s (.s (.s (.s (.s .z))))) hy (.s (.s .z)))) rfl ?_
            refine at_nil (dr_next (fun _ => (by repeat first | exact sLn _ | apply sLc | apply sLd)) ?_)
            refine dr_take 6 rfl (by kernel_rfl) (by repeat first | exact sLn _ | apply sLc | apply sLd) (by first | exact pv_sub_n rfl rfl (by unfold In64; omega) | exact pv_sub rfl rfl) rfl ?_
            refine dr_one 10 (by kernel_rfl) rfl ?_
            refine at_pure (pv_elem ld_3 rfl (RowP.get len4 (by decide) (.s (.s (.s (.s (.s .z))))) hy (.s (.s (.s .z))))) rfl ?_
            refine at_nil (dr_next (fun _ => (by repeat first | exact sLn _ | apply sLc | apply sLd)) ?_)
            refine dr_take 11 rfl (by kernel_rfl) (by repeat first | exact sLn _ | apply sLc | apply sLd) (by first | exact pv_sub_n rfl rfl (by unfold In64; omega) | exact pv_sub rfl rfl) rfl ?_
            refine dr_take 12 rfl (by kernel_rfl) (by repeat first | exact sLn _ | apply sLc | apply sLd) (pv_nilCheck rfl) rfl ?_
            refine dr_take 13 rfl (by kernel_rfl) (by repeat first | exact sLn _ | apply sLc | apply sLd) (pv_fieldAddr fa_39_2 rfl) rfl ?_
            refine dr_one 14 (by kernel_rfl) rfl ?_
            refine at_turns (by exact turns_put (z' := (y.1, y.2.1, wrap64 (y.2.2.1 - 1), y.2.2.2)) (k := (at_ % ((compO z.ns z.ls z.cs (1 + wk % 4)).length : Int)).toNat) (q := 2) len4 sz_3 rfl (add_assoc' _ _ _) rfl (.one rfl) rfl rfl (.s (.s (.s (.s (.s .z))))) hy rfl (Nat.le_of_ble_eq_true rfl) (.s (.s (.s (.s (.s .z)))))) ?_
            refine at_nil (dr_next (fun _ => (by repeat first | exact sLn _ | apply sLc | apply sLd)) ?_)
            refine dr_take 15 rfl (by kernel_rfl) (by repeat first | exact sLn _ | apply sLc | apply sLd) (pv_nilCheck rfl) rfl ?_
            refine dr_take 16 rfl (by kernel_rfl) (by repeat first | exact sLn _ | apply sLc | apply sLd) (pv_fieldAddr fa_39_3 rfl) rfl ?_
            refine dr_one 17 (by kernel_rfl) rfl ?_
            refine at_turns (by exact turns_put (z' := (y.1, y.2.1, wrap64 (y.2.2.1 - 1), wrap64 (y.2.2.2 - 1))) (k := (at_ % ((compO z.ns z.ls z.cs (1 + wk % 4)).length : Int)).toNat) (q := 3) len4 sz_3 rfl (add_assoc' _ _ _) rfl (.one rfl) rfl rfl (.s (.s (.s (.s (.s .z))))) (List.getElem?_set_self (by skip; exact hkl)) rfl (Nat.le_of_ble_eq_true rfl) (.s (.s (.s (.s (.s .z)))))) ?_
            refine at_nil (dr_next (fun h => by cases h) ?_)
            refine dr_done (by kernel_rfl) ?_
            refine ex_in_normal ?_
            first | (refine ex_meet (⟨a16, c16, (compO z.ns z.ls z.cs (1 + wk % 4)), a16, c16, (compO z.ns z.ls z.cs (1 + wk % 4)).length, (compO z.ns z.ls z.cs (1 + wk % 4))⟩ : YS) ⟨by first | rfl | simp only [List.length_set], fun w h => h⟩ ⟨rfl, rfl, rfl, rfl, rfl, rfl, rfl, trivial⟩ ?_; (repeat first | exact sLn _ | apply sLc | apply sLd); done) | (refine ex_meet (⟨a16, c16, (((compO z.ns z.ls z.cs (1 + wk % 4)).set (at_ % ((compO z.ns z.ls z.cs (1 + wk % 4)).length : Int)).toNat (y.1, y.2.1, wrap64 (y.2.2.1 - 1), y.2.2.2)).set (at_ % ((compO z.ns z.ls z.cs (1 + wk % 4)).length : Int)).toNat (y.1, y.2.1, wrap64 (y.2.2.1 - 1), wrap64 (y.2.2.2 - 1))), a16, c16, (compO z.ns z.ls z.cs (1 + wk % 4)).length, (((compO z.ns z.ls z.cs (1 + wk % 4)).set (at_ % ((compO z.ns z.ls z.cs (1 + wk % 4)).length : Int)).toNat (y.1, y.2.1, wrap64 (y.2.2.1 - 1), y.2.2.2)).set (at_ % ((compO z.ns z.ls z.cs (1 + wk % 4)).length : Int)).toNat (y.1, y.2.1, wrap64 (y.2.2.1 - 1), wrap64 (y.2.2.2 - 1)))⟩ : YS) ⟨by first | rfl | simp only [List.length_set], fun w h => h⟩ ⟨rfl, rfl, rfl, rfl, rfl, rfl, rfl, trivial⟩ ?_; (repeat first | exact sLn _ | apply sLc | apply sLd); done) | (refine ex_meet (⟨a16, c16, ((compO z.ns z.ls z.cs (1 + wk % 4)).set (at_ % ((compO z.ns z.ls z.cs (1 + wk % 4)).length : Int)).toNat (y.1, y.2.1, y.2.2.1, wrap64 (y.2.2.2 + 1))), a16, c16, (compO z.ns z.ls z.cs (1 + wk % 4)).length, ((compO z.ns z.ls z.cs (1 + wk % 4)).set (at_ % ((compO z.ns z.ls z.cs (1 + wk % 4)).length : Int)).toNat (y.1, y.2.1, y.2.2.1, wrap64 (y.2.2.2 + 1)))⟩ : YS) ⟨by first | rfl | simp only [List.length_set], fun w h => h⟩ ⟨rfl, rfl, rfl, rfl, rfl, rfl, rfl, trivial⟩ ?_; (repeat first | exact sLn _ | apply sLc | apply sLd); done) | (refine ex_meet (⟨a16, c16, ((compO z.ns z.ls z.cs (1 + wk % 4)).set (at_ % ((compO z.ns z.ls z.cs (1 + wk % 4)).length : Int)).toNat (y.1, at_ % 5, y.2.2.1, y.2.2.2)), a16, c16, (compO z.ns z.ls z.cs (1 + wk % 4)).length, ((compO z.ns z.ls z.cs (1 + wk % 4)).set (at_ % ((compO z.ns z.ls z.cs (1 + wk % 4)).length : Int)).toNat (y.1, at_ % 5, y.2.2.1, y.2.2.2))⟩ : YS) ⟨by first | rfl | simp only [List.length_set], fun w h => h⟩ ⟨rfl, rfl, rfl, rfl, rfl, rfl, rfl, trivial⟩ ?_; (repeat first | exact sLn _ | apply sLc | apply sLd); done) | (refine ex_meet (⟨a16, c16, ((compO z.ns z.ls z.cs (1 + wk % 4)).set (at_ % ((compO z.ns z.ls z.cs (1 + wk % 4)).length : Int)).toNat (wrap64 (y.1 + 1), y.2.1, y.2.2.1, y.2.2.2)), a16, c16, (compO z.ns z.ls z.cs (1 + wk % 4)).length, ((compO z.ns z.ls z.cs (1 + wk % 4)).set (at_ % ((compO z.ns z.ls z.cs (1 + wk % 4)).length : Int)).toNat (wrap64 (y.1 + 1), y.2.1, y.2.2.1, y.2.2.2))⟩ : YS) ⟨by first | rfl | simp only [List.length_set], fun w h => h⟩ ⟨rfl, rfl, rfl, rfl, rfl, rfl, rfl, trivial⟩ ?_; (repeat first | exact sLn _ | apply sLc | apply sLd); done) | (refine ex_meet (⟨a16, c16, (((compO z.ns z.ls z.cs (1 + wk % 4)).set (at_ % ((compO z.ns z.ls z.cs (1 + wk % 4)).length : Int)).toNat (y.1, y.2.1, wrap64 (y.2.2.1 + 7), y.2.2.2)).set (at_ % ((compO z.ns z.ls z.cs (1 + wk % 4)).length : Int)).toNat (y.1, y.2.1, wrap64 (y.2.2.1 + 7), wrap64 (y.2.2.2 + 7))), a16, c16, (compO z.ns z.ls z.cs (1 + wk % 4)).length, (((compO z.ns z.ls z.cs (1 + wk % 4)).set (at_ % ((compO z.ns z.ls z.cs (1 + wk % 4)).length : Int)).toNat (y.1, y.2.1, wrap64 (y.2.2.1 + 7), y.2.2.2)).set (at_ % ((compO z.ns z.ls z.cs (1 + wk % 4)).length : Int)).toNat (y.1, y.2.1, wrap64 (y.2.2.1 + 7), wrap64 (y.2.2.2 + 7)))⟩ : YS) ⟨by first | rfl | simp only [List.length_set], fun w h => h⟩ ⟨rfl, rfl, rfl, rfl, rfl, rfl, rfl, trivial⟩ ?_; (repeat first | exact sLn _ | apply sLc | apply sLd); done) | (refine ex_meet (⟨a16, c16, (compO z.ns z.ls z.cs (1 + wk % 4)), (if c16 = 1 then a16 else a16.map (·.add (1 * 4))), c16 - 1, (compO z.ns z.ls z.cs (1 + wk % 4)).length - 1, (compO z.ns z.ls z.cs (1 + wk % 4)).drop 1⟩ : YS) ⟨List.length_drop .., fun w h => h.drop 1 hlen0⟩ ⟨rfl, rfl, rfl, rfl, rfl, rfl, rfl, trivial⟩ ?_; (repeat first | exact sLn _ | apply sLc | apply sLd); done)
          · skip
            refine at_pure (pv_elem ld_3 rfl (RowP.get len4 (by decide) (.s (.s (.s (.s (.s .z))))) hy (.s (.s (.s .z))))) rfl ?_
            refine at_nil (dr_next (fun _ => (by repeat first | exact sLn _ | apply sLc | apply sLd)) ?_)
            refine dr_take 11 rfl (by kernel_rfl) (by repeat first | exact sLn _ | apply sLc | apply sLd) (by first | exact pv_sub_n rfl rfl (by unfold In64; omega) | exact pv_sub rfl rfl) rfl ?_
            refine dr_one 5 (by kernel_rfl) rfl ?_
            refine at_pure (pv_elem ld_3 rfl (RowP.get len4 (by decide) (.s (.s (.s (.s (.s .z))))) hy (.s (.s .z)))) rfl ?_
            refine at_nil (dr_next (fun _ => (by repeat first | exact sLn _ | apply sLc | apply sLd)) ?_)
            refine dr_take 6 rfl (by kernel_rfl) (by repeat first | exact sLn _ | apply sLc | apply sLd) (by first | exact pv_sub_n rfl rfl (by unfold In64; omega) | exact pv_sub rfl rfl) rfl ?_
            refine dr_take 12 rfl (by kernel_rfl) (by repeat first | exact sLn _ | apply sLc | apply sLd) (pv_nilCheck rfl) rfl ?_
            refine dr_take 13 rfl (by kernel_rfl) (by repeat first | exact sLn _ | apply sLc | apply sLd) (pv_fieldAddr fa_39_2 rfl) rfl ?_
            refine dr_one 14 (by kernel_rfl) rfl ?_
            refine at_turns (by exact turns_put (z' := (y.1, y.2.1, wrap64 (y.2.2.1 - 1), y.2.2.2)) (k := (at_ % ((compO z.ns z.ls z.cs (1 + wk % 4)).length : Int)).toNat) (q := 2) len4 sz_3 rfl (add_assoc' _ _ _) rfl (.one rfl) rfl rfl (.s (.s (.s (.s (.s .z))))) hy rfl (Nat.le_of_ble_eq_true rfl) (.s (.s (.s (.s (.s .z)))))) ?_
            refine at_nil (dr_next (fun _ => (by repeat first | exact sLn _ | apply sLc | apply sLd)) ?_)
            refine dr_take 15 rfl (by kernel_rfl) (by repeat first | exact sLn _ | apply sLc | apply sLd) (pv_nilCheck rfl) rfl ?_
            refine dr_take 16 rfl (by kernel_rfl) (by repeat first | exact sLn _ | apply sLc | apply sLd) (pv_fieldAddr fa_39_3 rfl) rfl ?_
            refine dr_one 17 (by kernel_rfl) rfl ?_
            refine at_turns (by exact turns_put (z' := (y.1, y.2.1, wrap64 (y.2.2.1 - 1), wrap64 (y.2.2.2 - 1))) (k := (at_ % ((compO z.ns z.ls z.cs (1 + wk % 4)).length : Int)).toNat) (q := 3) len4 sz_3 rfl (add_assoc' _ _ _) rfl (.one rfl) rfl rfl (.s (.s (.s (.s (.s .z))))) (List.getElem?_set_self (by skip; exact hkl)) rfl (Nat.le_of_ble_eq_true rfl) (.s (.s (.s (.s (.s .z)))))) ?_
            refine at_nil (dr_next (fun h => by cases h) ?_)
            refine dr_done (by kernel_rfl) ?_
            refine ex_in_normal ?_
            first | (refine ex_meet (⟨a16, c16, (compO z.ns z.ls z.cs (1 + wk % 4)), a16, c16, (compO z.ns z.ls z.cs (1 + wk % 4)).length, (compO z.ns z.ls z.cs (1 + wk % 4))⟩ : YS) ⟨by first | rfl | simp only [List.length_set], fun w h => h⟩ ⟨rfl, rfl, rfl, rfl, rfl, rfl, rfl, trivial⟩ ?_; (repeat first | exact sLn _ | apply sLc | apply sLd); done) | (refine ex_meet (⟨a16, c16, (((compO z.ns z.ls z.cs (1 + wk % 4)).set (at_ % ((compO z.ns z.ls z.cs (1 + wk % 4)).length : Int)).toNat (y.1, y.2.1, wrap64 (y.2.2.1 - 1), y.2.2.2)).set (at_ % ((compO z.ns z.ls z.cs (1 + wk % 4)).length : Int)).toNat (y.1, y.2.1, wrap64 (y.2.2.1 - 1), wrap64 (y.2.2.2 - 1))), a16, c16, (compO z.ns z.ls z.cs (1 + wk % 4)).length, (((compO z.ns z.ls z.cs (1 + wk % 4)).set (at_ % ((compO z.ns z.ls z.cs (1 + wk % 4)).length : Int)).toNat (y.1, y.2.1, wrap64 (y.2.2.1 - 1), y.2.2.2)).set (at_ % ((compO z.ns z.ls z.cs (1 + wk % 4)).length : Int)).toNat (y.1, y.2.1, wrap64 (y.2.2.1 - 1), wrap64 (y.2.2.2 - 1)))⟩ : YS) ⟨by first | rfl | simp only [List.length_set], fun w h => h⟩ ⟨rfl, rfl, rfl, rfl, rfl, rfl, rfl, trivial⟩ ?_; (repeat first | exact sLn _ | apply sLc | apply sLd); done) | (refine ex_meet (⟨a16, c16, ((compO z.ns z.ls z.cs (1 + wk % 4)).set (at_ % ((compO z.ns z.ls z.cs (1 + wk % 4)).length : Int)).toNat (y.1, y.2.1, y.2.2.1, wrap64 (y.2.2.2 + 1))), a16, c16, (compO z.ns z.ls z.cs (1 + wk % 4)).length, ((compO z.ns z.ls z.cs (1 + wk % 4)).set (at_ % ((compO z.ns z.ls z.cs (1 + wk % 4)).length : Int)).toNat (y.1, y.2.1, y.2.2.1, wrap64 (y.2.2.2 + 1)))⟩ : YS) ⟨by first | rfl | simp only [List.length_set], fun w h => h⟩ ⟨rfl, rfl, rfl, rfl, rfl, rfl, rfl, trivial⟩ ?_; (repeat first | exact sLn _ | apply sLc | apply sLd); done) | (refine ex_meet (⟨a16, c16, ((compO z.ns z.ls z.cs (1 + wk % 4)).set (at_ % ((compO z.ns z.ls z.cs (1 + wk % 4)).length : Int)).toNat (y.1, at_ % 5, y.2.2.1, y.2.2.2)), a16, c16, (compO z.ns z.ls z.cs (1 + wk % 4)).length, ((compO z.ns z.ls z.cs (1 + wk % 4)).set (at_ % ((compO z.ns z.ls z.cs (1 + wk % 4)).length : Int)).toNat (y.1, at_ % 5, y.2.2.1, y.2.2.2))⟩ : YS) ⟨by first | rfl | simp only [List.length_set], fun w h => h⟩ ⟨rfl, rfl, rfl, rfl, rfl, rfl, rfl, trivial⟩ ?_; (repeat first | exact sLn _ | apply sLc | apply sLd); done) | (refine ex_meet (⟨a16, c16, ((compO z.ns z.ls z.cs (1 + wk % 4)).set (at_ % ((compO z.ns z.ls z.cs (1 + wk % 4)).length : Int)).toNat (wrap64 (y.1 + 1), y.2.1, y.2.2.1, y.2.2.2)), a16, c16, (compO z.ns z.ls z.cs (1 + wk % 4)).length, ((compO z.ns z.ls z.cs (1 + wk % 4)).set (at_ % ((compO z.ns z.ls z.cs (1 + wk % 4)).length : Int)).toNat (wrap64 (y.1 + 1), y.2.1, y.2.2.1, y.2.2.2))⟩ : YS) ⟨by first | rfl | simp only [List.length_set], fun w h => h⟩ ⟨rfl, rfl, rfl, rfl, rfl, rfl, rfl, trivial⟩ ?_; (repeat first | exact sLn _ | apply sLc | apply sLd); done) | (refine ex_meet (⟨a16, c16, (((compO z.ns z.ls z.cs (1 + wk % 4)).set (at_ % ((compO z.ns z.ls z.cs (1 + wk % 4)).length : Int)).toNat (y.1, y.2.1, wrap64 (y.2.2.1 + 7), y.2.2.2)).set (at_ % ((compO z.ns z.ls z.cs (1 + wk % 4)).length : Int)).toNat (y.1, y.2.1, wrap64 (y.2.2.1 + 7), wrap64 (y.2.2.2 + 7))), a16, c16, (compO z.ns z.ls z.cs (1 + wk % 4)).length, (((compO z.ns z.ls z.cs (1 + wk % 4)).set (at_ % ((compO z.ns z.ls z.cs (1 + wk % 4)).length : Int)).toNat (y.1, y.2.1, wrap64 (y.2.2.1 + 7), y.2.2.2)).set (at_ % ((compO z.ns z.ls z.cs (1 + wk % 4)).length : Int)).toNat (y.1, y.2.1, wrap64 (y.2.2.1 + 7), wrap64 (y.2.2.2 + 7)))⟩ : YS) ⟨by first | rfl | simp only [List.length_set], fun w h => h⟩ ⟨rfl, rfl, rfl, rfl, rfl, rfl, rfl, trivial⟩ ?_; (repeat first | exact sLn _ | apply sLc | apply sLd); done) | (refine ex_meet (⟨a16, c16, (compO z.ns z.ls z.cs (1 + wk % 4)), (if c16 = 1 then a16 else a16.map (·.add (1 * 4))), c16 - 1, (compO z.ns z.ls z.cs (1 + wk % 4)).length - 1, (compO z.ns z.ls z.cs (1 + wk % 4)).drop 1⟩ : YS) ⟨List.length_drop .., fun w h => h.drop 1 hlen0⟩ ⟨rfl, rfl, rfl, rfl, rfl, rfl, rfl, trivial⟩ ?_; (repeat first | exact sLn _ | apply sLc | apply sLd); done)
        · skip
          refine cd_seq ?_
          refine cd_region ?_
          refine at_pure (pv_eql rfl rfl) rfl ?_
          refine at_pure (pv_assign rfl) rfl ?_
          refine at_nil ?_
          refine ex_go ?_
          refine cd_if rfl (fun hb4 => ?_) (fun hb4 => ?_)
          · skip
            refine cd_region ?_
            refine at_pure (pv_move rfl) rfl ?_
            refine at_pure (pv_nilCheck rfl) rfl ?_
            refine at_pure (pv_fieldAddr fa_39_3 rfl) rfl ?_
            refine at_pure (pv_elem ld_3 rfl (RowP.get len4 (by decide) (.s (.s (.s (.s (.s .z))))) hy (.s (.s (.s .z))))) rfl ?_
            refine at_pure (by first | exact pv_add_n rfl rfl (by unfold In64; omega) | exact pv_add rfl rfl) rfl ?_
            refine at_pure (pv_nilCheck rfl) rfl ?_
            refine at_pure (pv_fieldAddr fa_39_3 rfl) rfl ?_
            refine at_turns (by exact turns_put (z' := (y.1, y.2.1, y.2.2.1, wrap64 (y.2.2.2 + 1))) (k := (at_ % ((compO z.ns z.ls z.cs (1 + wk % 4)).length : Int)).toNat) (q := 3) len4 sz_3 rfl (add_assoc' _ _ _) rfl (.one rfl) rfl rfl (.s (.s (.s (.s (.s .z))))) hy rfl (Nat.le_of_ble_eq_true rfl) (.s (.s (.s (.s (.s .z)))))) ?_
            refine at_nil ?_
            refine ex_in_normal ?_
            first | (refine ex_meet (⟨a16, c16, (compO z.ns z.ls z.cs (1 + wk % 4)), a16, c16, (compO z.ns z.ls z.cs (1 + wk % 4)).length, (compO z.ns z.ls z.cs (1 + wk % 4))⟩ : YS) ⟨by first | rfl | simp only [List.length_set], fun w h => h⟩ ⟨rfl, rfl, rfl, rfl, rfl, rfl, rfl, trivial⟩ ?_; (repeat first | exact sLn _ | apply sLc | apply sLd); done) | (refine ex_meet (⟨a16, c16, (((compO z.ns z.ls z.cs (1 + wk % 4)).set (at_ % ((compO z.ns z.ls z.cs (1 + wk % 4)).length : Int)).toNat (y.1, y.2.1, wrap64 (y.2.2.1 - 1), y.2.2.2)).set (at_ % ((compO z.ns z.ls z.cs (1 + wk % 4)).length : Int)).toNat (y.1, y.2.1, wrap64 (y.2.2.1 - 1), wrap64 (y.2.2.2 - 1))), a16, c16, (compO z.ns z.ls z.cs (1 + wk % 4)).length, (((compO z.ns z.ls z.cs (1 + wk % 4)).set (at_ % ((compO z.ns z.ls z.cs (1 + wk % 4)).length : Int)).toNat (y.1, y.2.1, wrap64 (y.2.2.1 - 1), y.2.2.2)).set (at_ % ((compO z.ns z.ls z.cs (1 + wk % 4)).length : Int)).toNat (y.1, y.2.1, wrap64 (y.2.2.1 - 1), wrap64 (y.2.2.2 - 1)))⟩ : YS) ⟨by first | rfl | simp only [List.length_set], fun w h => h⟩ ⟨rfl, rfl, rfl, rfl, rfl, rfl, rfl, trivial⟩ ?_; (repeat first | exact sLn _ | apply sLc | apply sLd); done) | (refine ex_meet (⟨a16, c16, ((compO z.ns z.ls z.cs (1 + wk % 4)).set (at_ % ((compO z.ns z.ls z.cs (1 + wk % 4)).length : Int)).toNat (y.1, y.2.1, y.2.2.1, wrap64 (y.2.2.2 + 1))), a16, c16, (compO z.ns z.ls z.cs (1 + wk % 4)).length, ((compO z.ns z.ls z.cs (1 + wk % 4)).set (at_ % ((compO z.ns z.ls z.cs (1 + wk % 4)).length : Int)).toNat (y.1, y.2.1, y.2.2.1, wrap64 (y.2.2.2 + 1)))⟩ : YS) ⟨by first | rfl | simp only [List.length_set], fun w h => h⟩ ⟨rfl, rfl, rfl, rfl, rfl, rfl, rfl, trivial⟩ ?_; (repeat first | exact sLn _ | apply sLc | apply sLd); done) | (refine ex_meet (⟨a16, c16, ((compO z.ns z.ls z.cs (1 + wk % 4)).set (at_ % ((compO z.ns z.ls z.cs (1 + wk % 4)).length : Int)).toNat (y.1, at_ % 5, y.2.2.1, y.2.2.2)), a16, c16, (compO z.ns z.ls z.cs (1 + wk % 4)).length, ((compO z.ns z.ls z.cs (1 + wk % 4)).set (at_ % ((compO z.ns z.ls z.cs (1 + wk % 4)).length : Int)).toNat (y.1, at_ % 5, y.2.2.1, y.2.2.2))⟩ : YS) ⟨by first | rfl | simp only [List.length_set], fun w h => h⟩ ⟨rfl, rfl, rfl, rfl, rfl, rfl, rfl, trivial⟩ ?_; (repeat first | exact sLn _ | apply sLc | apply sLd); done) | (refine ex_meet (⟨a16, c16, ((compO z.ns z.ls z.cs (1 + wk % 4)).set (at_ % ((compO z.ns z.ls z.cs (1 + wk % 4)).length : Int)).toNat (wrap64 (y.1 + 1), y.2.1, y.2.2.1, y.2.2.2)), a16, c16, (compO z.ns z.ls z.cs (1 + wk % 4)).length, ((compO z.ns z.ls z.cs (1 + wk % 4)).set (at_ % ((compO z.ns z.ls z.cs (1 + wk % 4)).length : Int)).toNat (wrap64 (y.1 + 1), y.2.1, y.2.2.1, y.2.2.2))⟩ : YS) ⟨by first | rfl | simp only [List.length_set], fun w h => h⟩ ⟨rfl, rfl, rfl, rfl, rfl, rfl, rfl, trivial⟩ ?_; (repeat first | exact sLn _ | apply sLc | apply sLd); done) | (refine ex_meet (⟨a16, c16, (((compO z.ns z.ls z.cs (1 + wk % 4)).set (at_ % ((compO z.ns z.ls z.cs (1 + wk % 4)).length : Int)).toNat (y.1, y.2.1, wrap64 (y.2.2.1 + 7), y.2.2.2)).set (at_ % ((compO z.ns z.ls z.cs (1 + wk % 4)).length : Int)).toNat (y.1, y.2.1, wrap64 (y.2.2.1 + 7), wrap64 (y.2.2.2 + 7))), a16, c16, (compO z.ns z.ls z.cs (1 + wk % 4)).length, (((compO z.ns z.ls z.cs (1 + wk % 4)).set (at_ % ((compO z.ns z.ls z.cs (1 + wk % 4)).length : Int)).toNat (y.1, y.2.1, wrap64 (y.2.2.1 + 7), y.2.2.2)).set (at_ % ((compO z.ns z.ls z.cs (1 + wk % 4)).length : Int)).toNat (y.1, y.2.1, wrap64 (y.2.2.1 + 7), wrap64 (y.2.2.2 + 7)))⟩ : YS) ⟨by first | rfl | simp only [List.length_set], fun w h => h⟩ ⟨rfl, rfl, rfl, rfl, rfl, rfl, rfl, trivial⟩ ?_; (repeat first | exact sLn _ | apply sLc | apply sLd); done) | (refine ex_meet (⟨a16, c16, (compO z.ns z.ls z.cs (1 + wk % 4)), (if c16 = 1 then a16 else a16.map (·.add (1 * 4))), c16 - 1, (compO z.ns z.ls z.cs (1 + wk % 4)).length - 1, (compO z.ns z.ls z.cs (1 + wk % 4)).drop 1⟩ : YS) ⟨List.length_drop .., fun w h => h.drop 1 hlen0⟩ ⟨rfl, rfl, rfl, rfl, rfl, rfl, rfl, trivial⟩ ?_; (repeat first | exact sLn _ | apply sLc | apply sLd); done)
          · skip
            refine cd_seq ?_
            refine cd_region ?_
            refine at_pure (pv_eql rfl rfl) rfl ?_
            refine at_pure (pv_assign rfl) rfl ?_
            refine at_nil ?_
            refine ex_go ?_
            refine cd_if rfl (fun hb5 => ?_) (fun hb5 => ?_)
            · skip
              refine cd_region ?_
              refine at_pure (pv_move rfl) rfl ?_
              refine at_pure (pv_move rfl) rfl ?_
              refine at_does (does_val cal13 rfl rfl rfl (fun w hs => mod_any _ _ w (by first | decide | omega))) rfl (fun _ => ?_)
              refine at_pure (pv_nilCheck rfl) rfl ?_
              refine at_pure (pv_fieldAddr fa_39_1 rfl) rfl ?_
              refine at_turns (by exact turns_put (z' := (y.1, at_ % 5, y.2.2.1, y.2.2.2)) (k := (at_ % ((compO z.ns z.ls z.cs (1 + wk % 4)).length : Int)).toNat) (q := 1) len4 sz_3 rfl (add_assoc' _ _ _) rfl (.one rfl) rfl rfl (.s (.s (.s (.s (.s .z))))) hy rfl (Nat.le_of_ble_eq_true rfl) (.s (.s (.s (.s (.s .z)))))) ?_
              refine at_nil ?_
              refine ex_in_normal ?_
              first | (refine ex_meet (⟨a16, c16, (compO z.ns z.ls z.cs (1 + wk % 4)), a16, c16, (compO z.ns z.ls z.cs (1 + wk % 4)).length, (compO z.ns z.ls z.cs (1 + wk % 4))⟩ : YS) ⟨by first | rfl | simp only [List.length_set], fun w h => h⟩ ⟨rfl, rfl, rfl, rfl, rfl, rfl, rfl, trivial⟩ ?_; (repeat first | exact sLn _ | apply sLc | apply sLd); done) | (refine ex_meet (⟨a16, c16, (((compO z.ns z.ls z.cs (1 + wk % 4)).set (at_ % ((compO z.ns z.ls z.cs (1 + wk % 4)).length : Int)).toNat (y.1, y.2.1, wrap64 (y.2.2.1 - 1), y.2.2.2)).set (at_ % ((compO z.ns z.ls z.cs (1 + wk % 4)).length : Int)).toNat (y.1, y.2.1, wrap64 (y.2.2.1 - 1), wrap64 (y.2.2.2 - 1))), a16, c16, (compO z.ns z.ls z.cs (1 + wk % 4)).length, (((compO z.ns z.ls z.cs (1 + wk % 4)).set (at_ % ((compO z.ns z.ls z.cs (1 + wk % 4)).length : Int)).toNat (y.1, y.2.1, wrap64 (y.2.2.1 - 1), y.2.2.2)).set (at_ % ((compO z.ns z.ls z.cs (1 + wk % 4)).length : Int)).toNat (y.1, y.2.1, wrap64 (y.2.2.1 - 1), wrap64 (y.2.2.2 - 1)))⟩ : YS) ⟨by first | rfl | simp only [List.length_set], fun w h => h⟩ ⟨rfl, rfl, rfl, rfl, rfl, rfl, rfl, trivial⟩ ?_; (repeat first | exact sLn _ | apply sLc | apply sLd); done) | (refine ex_meet (⟨a16, c16, ((compO z.ns z.ls z.cs (1 + wk % 4)).set (at_ % ((compO z.ns z.ls z.cs (1 + wk % 4)).length : Int)).toNat (y.1, y.2.1, y.2.2.1, wrap64 (y.2.2.2 + 1))), a16, c16, (compO z.ns z.ls z.cs (1 + wk % 4)).length, ((compO z.ns z.ls z.cs (1 + wk % 4)).set (at_ % ((compO z.ns z.ls z.cs (1 + wk % 4)).length : Int)).toNat (y.1, y.2.1, y.2.2.1, wrap64 (y.2.2.2 + 1)))⟩ : YS) ⟨by first | rfl | simp only [List.length_set], fun w h => h⟩ ⟨rfl, rfl, rfl, rfl, rfl, rfl, rfl, trivial⟩ ?_; (repeat first | exact sLn _ | apply sLc | apply sLd); done) | (refine ex_meet (⟨a16, c16, ((compO z.ns z.ls z.cs (1 + wk % 4)).set (at_ % ((compO z.ns z.ls z.cs (1 + wk % 4)).length : Int)).toNat (y.1, at_ % 5, y.2.2.1, y.2.2.2)), a16, c16, (compO z.ns z.ls z.cs (1 + wk % 4)).length, ((compO z.ns z.ls z.cs (1 + wk % 4)).set (at_ % ((compO z.ns z.ls z.cs (1 + wk % 4)).length : Int)).toNat (y.1, at_ % 5, y.2.2.1, y.2.2.2))⟩ : YS) ⟨by first | rfl | simp only [List.length_set], fun w h => h⟩ ⟨rfl, rfl, rfl, rfl, rfl, rfl, rfl, trivial⟩ ?_; (repeat first | exact sLn _ | apply sLc | apply sLd); done) | (refine ex_meet (⟨a16, c16, ((compO z.ns z.ls z.cs (1 + wk % 4)).set (at_ % ((compO z.ns z.ls z.cs (1 + wk % 4)).length : Int)).toNat (wrap64 (y.1 + 1), y.2.1, y.2.2.1, y.2.2.2)), a16, c16, (compO z.ns z.ls z.cs (1 + wk % 4)).length, ((compO z.ns z.ls z.cs (1 + wk % 4)).set (at_ % ((compO z.ns z.ls z.cs (1 + wk % 4)).length : Int)).toNat (wrap64 (y.1 + 1), y.2.1, y.2.2.1, y.2.2.2))⟩ : YS) ⟨by first | rfl | simp only [List.length_set], fun w h => h⟩ ⟨rfl, rfl, rfl, rfl, rfl, rfl, rfl, trivial⟩ ?_; (repeat first | exact sLn _ | apply sLc | apply sLd); done) | (refine ex_meet (⟨a16, c16, (((compO z.ns z.ls z.cs (1 + wk % 4)).set (at_ % ((compO z.ns z.ls z.cs (1 + wk % 4)).length : Int)).toNat (y.1, y.2.1, wrap64 (y.2.2.1 + 7), y.2.2.2)).set (at_ % ((compO z.ns z.ls z.cs (1 + wk % 4)).length : Int)).toNat (y.1, y.2.1, wrap64 (y.2.2.1 + 7), wrap64 (y.2.2.2 + 7))), a16, c16, (compO z.ns z.ls z.cs (1 + wk % 4)).length, (((compO z.ns z.ls z.cs (1 + wk % 4)).set (at_ % ((compO z.ns z.ls z.cs (1 + wk % 4)).length : Int)).toNat (y.1, y.2.1, wrap64 (y.2.2.1 + 7), y.2.2.2)).set (at_ % ((compO z.ns z.ls z.cs (1 + wk % 4)).length : Int)).toNat (y.1, y.2.1, wrap64 (y.2.2.1 + 7), wrap64 (y.2.2.2 + 7)))⟩ : YS) ⟨by first | rfl | simp only [List.length_set], fun w h => h⟩ ⟨rfl, rfl, rfl, rfl, rfl, rfl, rfl, trivial⟩ ?_; (repeat first | exact sLn _ | apply sLc | apply sLd); done) | (refine ex_meet (⟨a16, c16, (compO z.ns z.ls z.cs (1 + wk % 4)), (if c16 = 1 then a16 else a16.map (·.add (1 * 4))), c16 - 1, (compO z.ns z.ls z.cs (1 + wk % 4)).length - 1, (compO z.ns z.ls z.cs (1 + wk % 4)).drop 1⟩ : YS) ⟨List.length_drop .., fun w h => h.drop 1 hlen0⟩ ⟨rfl, rfl, rfl, rfl, rfl, rfl, rfl, trivial⟩ ?_; (repeat first | exact sLn _ | apply sLc | apply sLd); done)
            · skip
              refine cd_seq ?_
              refine cd_region ?_
              refine at_pure (pv_eql rfl rfl) rfl ?_
              refine at_pure (pv_assign rfl) rfl ?_
              refine at_nil ?_
              refine ex_go ?_
              refine cd_if rfl (fun hb6 => ?_) (fun hb6 => ?_)
              · skip
                refine cd_region ?_
                refine at_pure (pv_move rfl) rfl ?_
                refine at_pure (pv_nilCheck rfl) rfl ?_
                refine at_pure (pv_fieldAddr fa_39_0 rfl) rfl ?_
                refine at_pure (pv_elem ld_3 rfl (RowP.get len4 (by decide) (.s (.s (.s (.s (.s .z))))) hy .z)) rfl ?_
                refine at_pure (by first | exact pv_add_n rfl rfl (by unfold In64; omega) | exact pv_add rfl rfl) rfl ?_
                refine at_pure (pv_nilCheck rfl) rfl ?_
                refine at_pure (pv_fieldAddr fa_39_0 rfl) rfl ?_
                refine at_turns (by exact turns_put (z' := (wrap64 (y.1 + 1), y.2.1, y.2.2.1, y.2.2.2)) (k := (at_ % ((compO z.ns z.ls z.cs (1 + wk % 4)).length : Int)).toNat) (q := 0) len4 sz_3 rfl (add_assoc' _ _ _) rfl (.one rfl) rfl rfl (.s (.s (.s (.s (.s .z))))) hy rfl (Nat.le_of_ble_eq_true rfl) (.s (.s (.s (.s (.s .z)))))) ?_
                refine at_nil ?_
                refine ex_in_normal ?_
                first | (refine ex_meet (⟨a16, c16, (compO z.ns z.ls z.cs (1 + wk % 4)), a16, c16, (compO z.ns z.ls z.cs (1 + wk % 4)).length, (compO z.ns z.ls z.cs (1 + wk % 4))⟩ : YS) ⟨by first | rfl | simp only [List.length_set], fun w h => h⟩ ⟨rfl, rfl, rfl, rfl, rfl, rfl, rfl, trivial⟩ ?_; (repeat first | exact sLn _ | apply sLc | apply sLd); done) | (refine ex_meet (⟨a16, c16, (((compO z.ns z.ls z.cs (1 + wk % 4)).set (at_ % ((compO z.ns z.ls z.cs (1 + wk % 4)).length : Int)).toNat (y.1, y.2.1, wrap64 (y.2.2.1 - 1), y.2.2.2)).set (at_ % ((compO z.ns z.ls z.cs (1 + wk % 4)).length : Int)).toNat (y.1, y.2.1, wrap64 (y.2.2.1 - 1), wrap64 (y.2.2.2 - 1))), a16, c16, (compO z.ns z.ls z.cs (1 + wk % 4)).length, (((compO z.ns z.ls z.cs (1 + wk % 4)).set (at_ % ((compO z.ns z.ls z.cs (1 + wk % 4)).length : Int)).toNat (y.1, y.2.1, wrap64 (y.2.2.1 - 1), y.2.2.2)).set (at_ % ((compO z.ns z.ls z.cs (1 + wk % 4)).length : Int)).toNat (y.1, y.2.1, wrap64 (y.2.2.1 - 1), wrap64 (y.2.2.2 - 1)))⟩ : YS) ⟨by first | rfl | simp only [List.length_set], fun w h => h⟩ ⟨rfl, rfl, rfl, rfl, rfl, rfl, rfl, trivial⟩ ?_; (repeat first | exact sLn _ | apply sLc | apply sLd); done) | (refine ex_meet (⟨a16, c16, ((compO z.ns z.ls z.cs (1 + wk % 4)).set (at_ % ((compO z.ns z.ls z.cs (1 + wk % 4)).length : Int)).toNat (y.1, y.2.1, y.2.2.1, wrap64 (y.2.2.2 + 1))), a16, c16, (compO z.ns z.ls z.cs (1 + wk % 4)).length, ((compO z.ns z.ls z.cs (1 + wk % 4)).set (at_ % ((compO z.ns z.ls z.cs (1 + wk % 4)).length : Int)).toNat (y.1, y.2.1, y.2.2.1, wrap64 (y.2.2.2 + 1)))⟩ : YS) ⟨by first | rfl | simp only [List.length_set], fun w h => h⟩ ⟨rfl, rfl, rfl, rfl, rfl, rfl, rfl, trivial⟩ ?_; (repeat first | exact sLn _ | apply sLc | apply sLd); done) | (refine ex_meet (⟨a16, c16, ((compO z.ns z.ls z.cs (1 + wk % 4)).set (at_ % ((compO z.ns z.ls z.cs (1 + wk % 4)).length : Int)).toNat (y.1, at_ % 5, y.2.2.1, y.2.2.2)), a16, c16, (compO z.ns z.ls z.cs (1 + wk % 4)).length, ((compO z.ns z.ls z.cs (1 + wk % 4)).set (at_ % ((compO z.ns z.ls z.cs (1 + wk % 4)).length : Int)).toNat (y.1, at_ % 5, y.2.2.1, y.2.2.2))⟩ : YS) ⟨by first | rfl | simp only [List.length_set], fun w h => h⟩ ⟨rfl, rfl, rfl, rfl, rfl, rfl, rfl, trivial⟩ ?_; (repeat first | exact sLn _ | apply sLc | apply sLd); done) | (refine ex_meet (⟨a16, c16, ((compO z.ns z.ls z.cs (1 + wk % 4)).set (at_ % ((compO z.ns z.ls z.cs (1 + wk % 4)).length : Int)).toNat (wrap64 (y.1 + 1), y.2.1, y.2.2.1, y.2.2.2)), a16, c16, (compO z.ns z.ls z.cs (1 + wk % 4)).length, ((compO z.ns z.ls z.cs (1 + wk % 4)).set (at_ % ((compO z.ns z.ls z.cs (1 + wk % 4)).length : Int)).toNat (wrap64 (y.1 + 1), y.2.1, y.2.2.1, y.2.2.2))⟩ : YS) ⟨by first | rfl | simp only [List.length_set], fun w h => h⟩ ⟨rfl, rfl, rfl, rfl, rfl, rfl, rfl, trivial⟩ ?_; (repeat first | exact sLn _ | apply sLc | apply sLd); done) | (refine ex_meet (⟨a16, c16, (((compO z.ns z.ls z.cs (1 + wk % 4)).set (at_ % ((compO z.ns z.ls z.cs (1 + wk % 4)).length : Int)).toNat (y.1, y.2.1, wrap64 (y.2.2.1 + 7), y.2.2.2)).set (at_ % ((compO z.ns z.ls z.cs (1 + wk % 4)).length : Int)).toNat (y.1, y.2.1, wrap64 (y.2.2.1 + 7), wrap64 (y.2.2.2 + 7))), a16, c16, (compO z.ns z.ls z.cs (1 + wk % 4)).length, (((compO z.ns z.ls z.cs (1 + wk % 4)).set (at_ % ((compO z.ns z.ls z.cs (1 + wk % 4)).length : Int)).toNat (y.1, y.2.1, wrap64 (y.2.2.1 + 7), y.2.2.2)).set (at_ % ((compO z.ns z.ls z.cs (1 + wk % 4)).length : Int)).toNat (y.1, y.2.1, wrap64 (y.2.2.1 + 7), wrap64 (y.2.2.2 + 7)))⟩ : YS) ⟨by first | rfl | simp only [List.length_set], fun w h => h⟩ ⟨rfl, rfl, rfl, rfl, rfl, rfl, rfl, trivial⟩ ?_; (repeat first | exact sLn _ | apply sLc | apply sLd); done) | (refine ex_meet (⟨a16, c16, (compO z.ns z.ls z.cs (1 + wk % 4)), (if c16 = 1 then a16 else a16.map (·.add (1 * 4))), c16 - 1, (compO z.ns z.ls z.cs (1 + wk % 4)).length - 1, (compO z.ns z.ls z.cs (1 + wk % 4)).drop 1⟩ : YS) ⟨List.length_drop .., fun w h => h.drop 1 hlen0⟩ ⟨rfl, rfl, rfl, rfl, rfl, rfl, rfl, trivial⟩ ?_; (repeat first | exact sLn _ | apply sLc | apply sLd); done)
              · skip
                refine cd_seq ?_
                refine cd_region ?_
                refine at_pure (pv_eql rfl rfl) rfl ?_
                refine at_pure (pv_assign rfl) rfl ?_
                refine at_nil ?_
                refine ex_go ?_
                refine cd_if rfl (fun hb7 => ?_) (fun hb7 => ?_)
                · skip
                  refine cd_draw 17 [RowP enc4 4 70 z.an z.cn z.ns, RowP enc4 4 61 z.al z.cl z.ls, RowP enc1 1 3 z.ac z.cc z.cs, Box g13 [.slice z.an z.ns.length z.cn, .slice z.al z.ls.length z.cl] 28] follows ?_
                  refine dr_take 0 rfl (by kernel_rfl) (by repeat first | exact sLn _ | apply sLc | apply sLd) (pv_move rfl) rfl ?_
                  refine dr_take 1 rfl (by kernel_rfl) (by repeat first | exact sLn _ | apply sLc | apply sLd) (pv_move rfl) rfl ?_
                  refine dr_take 2 rfl (by kernel_rfl) (by repeat first | exact sLn _ | apply sLc | apply sLd) (pv_move rfl) rfl ?_
                  refine dr_take 3 rfl (by kernel_rfl) (by repeat first | exact sLn _ | apply sLc | apply sLd) (pv_nilCheck rfl) rfl ?_
                  refine dr_take 4 rfl (by kernel_rfl) (by repeat first | exact sLn _ | apply sLc | apply sLd) (pv_fieldAddr fa_39_2 rfl) rfl ?_
                  refine dr_take 7 rfl (by kernel_rfl) (by repeat first | exact sLn _ | apply sLc | apply sLd) (pv_move rfl) rfl ?_
                  refine dr_take 8 rfl (by kernel_rfl) (by repeat first | exact sLn _ | apply sLc | apply sLd) (pv_nilCheck rfl) rfl ?_
                  refine dr_take 9 rfl (by kernel_rfl) (by repeat first | exact sLn _ | apply sLc | apply sLd) (pv_fieldAddr fa_39_3 rfl) rfl ?_
                  refine dr_two 5 10 (by kernel_rfl) rfl rfl ?_ ?_
                  · skip
                    refine at_pure (pv_elem ld_3 rfl (RowP.get len4 (by decide) (.s (.s (.s (.s (.s .z))))) hy (.s (.s .z)))) rfl ?_
                    refine at_nil (dr_next (fun _ => (by repeat first | exact sLn _ | apply sLc | apply sLd)) ?_)
                    refine dr_take 6 rfl (by kernel_rfl) (by repeat first | exact sLn _ | apply sLc | apply sLd) (by first | exact pv_add_n rfl rfl (by unfold In64; omega) | exact pv_add rfl rfl) rfl ?_
                    refine dr_one 10 (by kernel_rfl) rfl ?_
                    refine at_pure (pv_elem ld_3 rfl (RowP.get len4 (by decide) (.s (.s (.s (.s (.s .z))))) hy (.s (.s (.s .z))))) rfl ?_
                    refine at_nil (dr_next (fun _ => (by repeat first | exact sLn _ | apply sLc | apply sLd)) ?_)
                    refine dr_take 11 rfl (by kernel_rfl) (by repeat first | exact sLn _ | apply sLc | apply sLd) (by first | exact pv_add_n rfl rfl (by unfold In64; omega) | exact pv_add rfl rfl) rfl ?_
                    refine dr_take 12 rfl (by kernel_rfl) (by repeat first | exact sLn _ | apply sLc | apply sLd) (pv_nilCheck rfl) rfl ?_
                    refine dr_take 13 rfl (by kernel_rfl) (by repeat first | exact sLn _ | apply sLc | apply sLd) (pv_fieldAddr fa_39_2 rfl) rfl ?_
                    refine dr_one 14 (by kernel_rfl) rfl ?_
                    refine at_turns (by exact turns_put (z' := (y.1, y.2.1, wrap64 (y.2.2.1 + 7), y.2.2.2)) (k := (at_ % ((compO z.ns z.ls z.cs (1 + wk % 4)).length : Int)).toNat) (q := 2) len4 sz_3 rfl (add_assoc' _ _ _) rfl (.one rfl) rfl rfl (.s (.s (.s (.s (.s .z))))) hy rfl (Nat.le_of_ble_eq_true rfl) (.s (.s (.s (.s (.s .z)))))) ?_
                    refine at_nil (dr_next (fun _ => (by repeat first | exact sLn _ | apply sLc | apply sLd)) ?_)
                    refine dr_take 15 rfl (by kernel_rfl) (by repeat first | exact sLn _ | apply sLc | apply sLd) (pv_nilCheck rfl) rfl ?_
                    refine dr_take 16 rfl (by kernel_rfl) (by repeat first | exact sLn _ | apply sLc | apply sLd) (pv_fieldAddr fa_39_3 rfl) rfl ?_
                    refine dr_one 17 (by kernel_rfl) rfl ?_
                    refine at_turns (by exact turns_put (z' := (y.1, y.2.1, wrap64 (y.2.2.1 + 7), wrap64 (y.2.2.2 + 7))) (k := (at_ % ((compO z.ns z.ls z.cs (1 + wk % 4)).length : Int)).toNat) (q := 3) len4 sz_3 rfl (add_assoc' _ _ _) rfl (.one rfl) rfl rfl (.s (.s (.s (.s (.s .z))))) (List.getElem?_set_self (by skip; exact hkl)) rfl (Nat.le_of_ble_eq_true rfl) (.s (.s (.s (.s (.s .z)))))) ?_
                    refine at_nil (dr_next (fun h => by cases h) ?_)
                    refine dr_done (by kernel_rfl) ?_
                    refine ex_in_normal ?_
                    first | (refine ex_meet (⟨a16, c16, (compO z.ns z.ls z.cs (1 + wk % 4)), a16, c16, (compO z.ns z.ls z.cs (1 + wk % 4)).length, (compO z.ns z.ls z.cs (1 + wk % 4))⟩ : YS) ⟨by first | rfl | simp only [List.length_set], fun w h => h⟩ ⟨rfl, rfl, rfl, rfl, rfl, rfl, rfl, trivial⟩ ?_; (repeat first | exact sLn _ | apply sLc | apply sLd); done) | (refine ex_meet (⟨a16, c16, (((compO z.ns z.ls z.cs (1 + wk % 4)).set (at_ % ((compO z.ns z.ls z.cs (1 + wk % 4)).length : Int)).toNat (y.1, y.2.1, wrap64 (y.2.2.1 - 1), y.2.2.2)).set (at_ % ((compO z.ns z.ls z.cs (1 + wk % 4)).length : Int)).toNat (y.1, y.2.1, wrap64 (y.2.2.1 - 1), wrap64 (y.2.2.2 - 1))), a16, c16, (compO z.ns z.ls z.cs (1 + wk % 4)).length, (((compO z.ns z.ls z.cs (1 + wk % 4)).set (at_ % ((compO z.ns z.ls z.cs (1 + wk % 4)).length : Int)).toNat (y.1, y.2.1, wrap64 (y.2.2.1 - 1), y.2.2.2)).set (at_ % ((compO z.ns z.ls z.cs (1 + wk % 4)).length : Int)).toNat (y.1, y.2.1, wrap64 (y.2.2.1 - 1), wrap64 (y.2.2.2 - 1)))⟩ : YS) ⟨by first | rfl | simp only [List.length_set], fun w h => h⟩ ⟨rfl, rfl, rfl, rfl, rfl, rfl, rfl, trivial⟩ ?_; (repeat first | exact sLn _ | apply sLc | apply sLd); done) | (refine ex_meet (⟨a16, c16, ((compO z.ns z.ls z.cs (1 + wk % 4)).set (at_ % ((compO z.ns z.ls z.cs (1 + wk % 4)).length : Int)).toNat (y.1, y.2.1, y.2.2.1, wrap64 (y.2.2.2 + 1))), a16, c16, (compO z.ns z.ls z.cs (1 + wk % 4)).length, ((compO z.ns z.ls z.cs (1 + wk % 4)).set (at_ % ((compO z.ns z.ls z.cs (1 + wk % 4)).length : Int)).toNat (y.1, y.2.1, y.2.2.1, wrap64 (y.2.2.2 + 1)))⟩ : YS) ⟨by first | rfl | simp only [List.length_set], fun w h => h⟩ ⟨rfl, rfl, rfl, rfl, rfl, rfl, rfl, trivial⟩ ?_; (repeat first | exact sLn _ | apply sLc | apply sLd); done) | (refine ex_meet (⟨a16, c16, ((compO z.ns z.ls z.cs (1 + wk % 4)).set (at_ % ((compO z.ns z.ls z.cs (1 + wk % 4)).length : Int)).toNat (y.1, at_ % 5, y.2.2.1, y.2.2.2)), a16, c16, (compO z.ns z.ls z.cs (1 + wk % 4)).length, ((compO z.ns z.ls z.cs (1 + wk % 4)).set (at_ % ((compO z.ns z.ls z.cs (1 + wk % 4)).length : Int)).toNat (y.1, at_ % 5, y.2.2.1, y.2.2.2))⟩ : YS) ⟨by first | rfl | simp only [List.length_set], fun w h => h⟩ ⟨rfl, rfl, rfl, rfl, rfl, rfl, rfl, trivial⟩ ?_; (repeat first | exact sLn _ | apply sLc | apply sLd); done) | (refine ex_meet (⟨a16, c16, ((compO z.ns z.ls z.cs (1 + wk % 4)).set (at_ % ((compO z.ns z.ls z.cs (1 + wk % 4)).length : Int)).toNat (wrap64 (y.1 + 1), y.2.1, y.2.2.1, y.2.2.2)), a16, c16, (compO z.ns z.ls z.cs (1 + wk % 4)).length, ((compO z.ns z.ls z.cs (1 + wk % 4)).set (at_ % ((compO z.ns z.ls z.cs (1 + wk % 4)).length : Int)).toNat (wrap64 (y.1 + 1), y.2.1, y.2.2.1, y.2.2.2))⟩ : YS) ⟨by first | rfl | simp only [List.length_set], fun w h => h⟩ ⟨rfl, rfl, rfl, rfl, rfl, rfl, rfl, trivial⟩ ?_; (repeat first | exact sLn _ | apply sLc | apply sLd); done) | (refine ex_meet (⟨a16, c16, (((compO z.ns z.ls z.cs (1 + wk % 4)).set (at_ % ((compO z.ns z.ls z.cs (1 + wk % 4)).length : Int)).toNat (y.1, y.2.1, wrap64 (y.2.2.1 + 7), y.2.2.2)).set (at_ % ((compO z.ns z.ls z.cs (1 + wk % 4)).length : Int)).toNat (y.1, y.2.1, wrap64 (y.2.2.1 + 7), wrap64 (y.2.2.2 + 7))), a16, c16, (compO z.ns z.ls z.cs (1 + wk % 4)).length, (((compO z.ns z.ls z.cs (1 + wk % 4)).set (at_ % ((compO z.ns z.ls z.cs (1 + wk % 4)).length : Int)).toNat (y.1, y.2.1, wrap64 (y.2.2.1 + 7), y.2.2.2)).set (at_ % ((compO z.ns z.ls z.cs (1 + wk % 4)).length : Int)).toNat (y.1, y.2.1, wrap64 (y.2.2.1 + 7), wrap64 (y.2.2.2 + 7)))⟩ : YS) ⟨by first | rfl | simp only [List.length_set], fun w h => h⟩ ⟨rfl, rfl, rfl, rfl, rfl, rfl, rfl, trivial⟩ ?_; (repeat first | exact sLn _ | apply sLc | apply sLd); done) | (refine ex_meet (⟨a16, c16, (compO z.ns z.ls z.cs (1 + wk % 4)), (if c16 = 1 then a16 else a16.map (·.add (1 * 4))), c16 - 1, (compO z.ns z.ls z.cs (1 + wk % 4)).length - 1, (compO z.ns z.ls z.cs (1 + wk % 4)).drop 1⟩ : YS) ⟨List.length_drop .., fun w h => h.drop 1 hlen0⟩ ⟨rfl, rfl, rfl, rfl, rfl, rfl, rfl, trivial⟩ ?_; (repeat first | exact sLn _ | apply sLc | apply sLd); done)
                  · skip
                    refine at_pure (pv_elem ld_3 rfl (RowP.get len4 (by decide) (.s (.s (.s (.s (.s .z))))) hy (.s (.s (.s .z))))) rfl ?_
                    refine at_nil (dr_next (fun _ => (by repeat first | exact sLn _ | apply sLc | apply sLd)) ?_)
                    refine dr_take 11 rfl (by kernel_rfl) (by repeat first | exact sLn _ | apply sLc | apply sLd) (by first | exact pv_add_n rfl rfl (by unfold In64; omega) | exact pv_add rfl rfl) rfl ?_
                    refine dr_one 5 (by kernel_rfl) rfl ?_
                    refine at_pure (pv_elem ld_3 rfl (RowP.get len4 (by decide) (.s (.s (.s (.s (.s .z))))) hy (.s (.s .z)))) rfl ?_
                    refine at_nil (dr_next (fun _ => (by repeat first | exact sLn _ | apply sLc | apply sLd)) ?_)
                    refine dr_take 6 rfl (by kernel_rfl) (by repeat first | exact sLn _ | apply sLc | apply sLd) (by first | exact pv_add_n rfl rfl (by unfold In64; omega) | exact pv_add rfl rfl) rfl ?_
                    refine dr_take 12 rfl (by kernel_rfl) (by repeat first | exact sLn _ | apply sLc | apply sLd) (pv_nilCheck rfl) rfl ?_
                    refine dr_take 13 rfl (by kernel_rfl) (by repeat first | exact sLn _ | apply sLc | apply sLd) (pv_fieldAddr fa_39_2 rfl) rfl ?_
                    refine dr_one 14 (by kernel_rfl) rfl ?_
                    refine at_turns (by exact turns_put (z' := (y.1, y.2.1, wrap64 (y.2.2.1 + 7), y.2.2.2)) (k := (at_ % ((compO z.ns z.ls z.cs (1 + wk % 4)).length : Int)).toNat) (q := 2) len4 sz_3 rfl (add_assoc' _ _ _) rfl (.one rfl) rfl rfl (.s (.s (.s (.s (.s .z))))) hy rfl (Nat.le_of_ble_eq_true rfl) (.s (.s (.s (.s (.s .z)))))) ?_
                    refine at_nil (dr_next (fun _ => (by repeat first | exact sLn _ | apply sLc | apply sLd)) ?_)
                    refine dr_take 15 rfl (by kernel_rfl) (by repeat first | exact sLn _ | apply sLc | apply sLd) (pv_nilCheck rfl) rfl ?_
                    refine dr_take 16 rfl (by kernel_rfl) (by repeat first | exact sLn _ | apply sLc | apply sLd) (pv_fieldAddr fa_39_3 rfl) rfl ?_
                    refine dr_one 17 (by kernel_rfl) rfl ?_
                    refine at_turns (by exact turns_put (z' := (y.1, y.2.1, wrap64 (y.2.2.1 + 7), wrap64 (y.2.2.2 + 7))) (k := (at_ % ((compO z.ns z.ls z.cs (1 + wk % 4)).length : Int)).toNat) (q := 3) len4 sz_3 rfl (add_assoc' _ _ _) rfl (.one rfl) rfl rfl (.s (.s (.s (.s (.s .z))))) (List.getElem?_set_self (by skip; exact hkl)) rfl (Nat.le_of_ble_eq_true rfl) (.s (.s (.s (.s (.s .z)))))) ?_
                    refine at_nil (dr_next (fun h => by cases h) ?_)
                    refine dr_done (by kernel_rfl) ?_
                    refine ex_in_normal ?_
                    first | (refine ex_meet (⟨a16, c16, (compO z.ns z.ls z.cs (1 + wk % 4)), a16, c16, (compO z.ns z.ls z.cs (1 + wk % 4)).length, (compO z.ns z.ls z.cs (1 + wk % 4))⟩ : YS) ⟨by first | rfl | simp only [List.length_set], fun w h => h⟩ ⟨rfl, rfl, rfl, rfl, rfl, rfl, rfl, trivial⟩ ?_; (repeat first | exact sLn _ | apply sLc | apply sLd); done) | (refine ex_meet (⟨a16, c16, (((compO z.ns z.ls z.cs (1 + wk % 4)).set (at_ % ((compO z.ns z.ls z.cs (1 + wk % 4)).length : Int)).toNat (y.1, y.2.1, wrap64 (y.2.2.1 - 1), y.2.2.2)).set (at_ % ((compO z.ns z.ls z.cs (1 + wk % 4)).length : Int)).toNat (y.1, y.2.1, wrap64 (y.2.2.1 - 1), wrap64 (y.2.2.2 - 1))), a16, c16, (compO z.ns z.ls z.cs (1 + wk % 4)).length, (((compO z.ns z.ls z.cs (1 + wk % 4)).set (at_ % ((compO z.ns z.ls z.cs (1 + wk % 4)).length : Int)).toNat (y.1, y.2.1, wrap64 (y.2.2.1 - 1), y.2.2.2)).set (at_ % ((compO z.ns z.ls z.cs (1 + wk % 4)).length : Int)).toNat (y.1, y.2.1, wrap64 (y.2.2.1 - 1), wrap64 (y.2.2.2 - 1)))⟩ : YS) ⟨by first | rfl | simp only [List.length_set], fun w h => h⟩ ⟨rfl, rfl, rfl, rfl, rfl, rfl, rfl, trivial⟩ ?_; (repeat first | exact sLn _ | apply sLc | apply sLd); done) | (refine ex_meet (⟨a16, c16, ((compO z.ns z.ls z.cs (1 + wk % 4)).set (at_ % ((compO z.ns z.ls z.cs (1 + wk % 4)).length : Int)).toNat (y.1, y.2.1, y.2.2.1, wrap64 (y.2.2.2 + 1))), a16, c16, (compO z.ns z.ls z.cs (1 + wk % 4)).length, ((compO z.ns z.ls z.cs (1 + wk % 4)).set (at_ % ((compO z.ns z.ls z.cs (1 + wk % 4)).length : Int)).toNat (y.1, y.2.1, y.2.2.1, wrap64 (y.2.2.2 + 1)))⟩ : YS) ⟨by first | rfl | simp only [List.length_set], fun w h => h⟩ ⟨rfl, rfl, rfl, rfl, rfl, rfl, rfl, trivial⟩ ?_; (repeat first | exact sLn _ | apply sLc | apply sLd); done) | (refine ex_meet (⟨a16, c16, ((compO z.ns z.ls z.cs (1 + wk % 4)).set (at_ % ((compO z.ns z.ls z.cs (1 + wk % 4)).length : Int)).toNat (y.1, at_ % 5, y.2.2.1, y.2.2.2)), a16, c16, (compO z.ns z.ls z.cs (1 + wk % 4)).length, ((compO z.ns z.ls z.cs (1 + wk % 4)).set (at_ % ((compO z.ns z.ls z.cs (1 + wk % 4)).length : Int)).toNat (y.1, at_ % 5, y.2.2.1, y.2.2.2))⟩ : YS) ⟨by first | rfl | simp only [List.length_set], fun w h => h⟩ ⟨rfl, rfl, rfl, rfl, rfl, rfl, rfl, trivial⟩ ?_; (repeat first | exact sLn _ | apply sLc | apply sLd); done) | (refine ex_meet (⟨a16, c16, ((compO z.ns z.ls z.cs (1 + wk % 4)).set (at_ % ((compO z.ns z.ls z.cs (1 + wk % 4)).length : Int)).toNat (wrap64 (y.1 + 1), y.2.1, y.2.2.1, y.2.2.2)), a16, c16, (compO z.ns z.ls z.cs (1 + wk % 4)).length, ((compO z.ns z.ls z.cs (1 + wk % 4)).set (at_ % ((compO z.ns z.ls z.cs (1 + wk % 4)).length : Int)).toNat (wrap64 (y.1 + 1), y.2.1, y.2.2.1, y.2.2.2))⟩ : YS) ⟨by first | rfl | simp only [List.length_set], fun w h => h⟩ ⟨rfl, rfl, rfl, rfl, rfl, rfl, rfl, trivial⟩ ?_; (repeat first | exact sLn _ | apply sLc | apply sLd); done) | (refine ex_meet (⟨a16, c16, (((compO z.ns z.ls z.cs (1 + wk % 4)).set (at_ % ((compO z.ns z.ls z.cs (1 + wk % 4)).length : Int)).toNat (y.1, y.2.1, wrap64 (y.2.2.1 + 7), y.2.2.2)).set (at_ % ((compO z.ns z.ls z.cs (1 + wk % 4)).length : Int)).toNat (y.1, y.2.1, wrap64 (y.2.2.1 + 7), wrap64 (y.2.2.2 + 7))), a16, c16, (compO z.ns z.ls z.cs (1 + wk % 4)).length, (((compO z.ns z.ls z.cs (1 + wk % 4)).set (at_ % ((compO z.ns z.ls z.cs (1 + wk % 4)).length : Int)).toNat (y.1, y.2.1, wrap64 (y.2.2.1 + 7), y.2.2.2)).set (at_ % ((compO z.ns z.ls z.cs (1 + wk % 4)).length : Int)).toNat (y.1, y.2.1, wrap64 (y.2.2.1 + 7), wrap64 (y.2.2.2 + 7)))⟩ : YS) ⟨by first | rfl | simp only [List.length_set], fun w h => h⟩ ⟨rfl, rfl, rfl, rfl, rfl, rfl, rfl, trivial⟩ ?_; (repeat first | exact sLn _ | apply sLc | apply sLd); done) | (refine ex_meet (⟨a16, c16, (compO z.ns z.ls z.cs (1 + wk % 4)), (if c16 = 1 then a16 else a16.map (·.add (1 * 4))), c16 - 1, (compO z.ns z.ls z.cs (1 + wk % 4)).length - 1, (compO z.ns z.ls z.cs (1 + wk % 4)).drop 1⟩ : YS) ⟨List.length_drop .., fun w h => h.drop 1 hlen0⟩ ⟨rfl, rfl, rfl, rfl, rfl, rfl, rfl, trivial⟩ ?_; (repeat first | exact sLn _ | apply sLc | apply sLd); done)
                · skip
                  refine cd_seq ?_
                  refine cd_region ?_
                  refine at_pure (pv_eql rfl rfl) rfl ?_
                  refine at_pure (pv_assign rfl) rfl ?_
                  refine at_nil ?_
                  refine ex_go ?_
                  refine cd_if rfl (fun hb8 => ?_) (fun hb8 => ?_)
                  · skip
                    refine cd_region ?_
                    refine at_pure (pv_move rfl) rfl ?_
                    refine at_pure (pv_cut_from Try.underlying23 cz_39 rfl rfl (k := 1) (by omega) rfl) rfl ?_
                    refine at_pure (pv_assign rfl) rfl ?_
                    refine at_nil ?_
                    refine ex_in_normal ?_
                    first | (refine ex_meet (⟨a16, c16, (compO z.ns z.ls z.cs (1 + wk % 4)), a16, c16, (compO z.ns z.ls z.cs (1 + wk % 4)).length, (compO z.ns z.ls z.cs (1 + wk % 4))⟩ : YS) ⟨by first | rfl | simp only [List.length_set], fun w h => h⟩ ⟨rfl, rfl, rfl, rfl, rfl, rfl, rfl, trivial⟩ ?_; (repeat first | exact sLn _ | apply sLc | apply sLd); done) | (refine ex_meet (⟨a16, c16, (((compO z.ns z.ls z.cs (1 + wk % 4)).set (at_ % ((compO z.ns z.ls z.cs (1 + wk % 4)).length : Int)).toNat (y.1, y.2.1, wrap64 (y.2.2.1 - 1), y.2.2.2)).set (at_ % ((compO z.ns z.ls z.cs (1 + wk % 4)).length : Int)).toNat (y.1, y.2.1, wrap64 (y.2.2.1 - 1), wrap64 (y.2.2.2 - 1))), a16, c16, (compO z.ns z.ls z.cs (1 + wk % 4)).length, (((compO z.ns z.ls z.cs (1 + wk % 4)).set (at_ % ((compO z.ns z.ls z.cs (1 + wk % 4)).length : Int)).toNat (y.1, y.2.1, wrap64 (y.2.2.1 - 1), y.2.2.2)).set (at_ % ((compO z.ns z.ls z.cs (1 + wk % 4)).length : Int)).toNat (y.1, y.2.1, wrap64 (y.2.2.1 - 1), wrap64 (y.2.2.2 - 1)))⟩ : YS) ⟨by first | rfl | simp only [List.length_set], fun w h => h⟩ ⟨rfl, rfl, rfl, rfl, rfl, rfl, rfl, trivial⟩ ?_; (repeat first | exact sLn _ | apply sLc | apply sLd); done) | (refine ex_meet (⟨a16, c16, ((compO z.ns z.ls z.cs (1 + wk % 4)).set (at_ % ((compO z.ns z.ls z.cs (1 + wk % 4)).length : Int)).toNat (y.1, y.2.1, y.2.2.1, wrap64 (y.2.2.2 + 1))), a16, c16, (compO z.ns z.ls z.cs (1 + wk % 4)).length, ((compO z.ns z.ls z.cs (1 + wk % 4)).set (at_ % ((compO z.ns z.ls z.cs (1 + wk % 4)).length : Int)).toNat (y.1, y.2.1, y.2.2.1, wrap64 (y.2.2.2 + 1)))⟩ : YS) ⟨by first | rfl | simp only [List.length_set], fun w h => h⟩ ⟨rfl, rfl, rfl, rfl, rfl, rfl, rfl, trivial⟩ ?_; (repeat first | exact sLn _ | apply sLc | apply sLd); done) | (refine ex_meet (⟨a16, c16, ((compO z.ns z.ls z.cs (1 + wk % 4)).set (at_ % ((compO z.ns z.ls z.cs (1 + wk % 4)).length : Int)).toNat (y.1, at_ % 5, y.2.2.1, y.2.2.2)), a16, c16, (compO z.ns z.ls z.cs (1 + wk % 4)).length, ((compO z.ns z.ls z.cs (1 + wk % 4)).set (at_ % ((compO z.ns z.ls z.cs (1 + wk % 4)).length : Int)).toNat (y.1, at_ % 5, y.2.2.1, y.2.2.2))⟩ : YS) ⟨by first | rfl | simp only [List.length_set], fun w h => h⟩ ⟨rfl, rfl, rfl, rfl, rfl, rfl, rfl, trivial⟩ ?_; (repeat first | exact sLn _ | apply sLc | apply sLd); done) | (refine ex_meet (⟨a16, c16, ((compO z.ns z.ls z.cs (1 + wk % 4)).set (at_ % ((compO z.ns z.ls z.cs (1 + wk % 4)).length : Int)).toNat (wrap64 (y.1 + 1), y.2.1, y.2.2.1, y.2.2.2)), a16, c16, (compO z.ns z.ls z.cs (1 + wk % 4)).length, ((compO z.ns z.ls z.cs (1 + wk % 4)).set (at_ % ((compO z.ns z.ls z.cs (1 + wk % 4)).length : Int)).toNat (wrap64 (y.1 + 1), y.2.1, y.2.2.1, y.2.2.2))⟩ : YS) ⟨by first | rfl | simp only [List.length_set], fun w h => h⟩ ⟨rfl, rfl, rfl, rfl, rfl, rfl, rfl, trivial⟩ ?_; (repeat first | exact sLn _ | apply sLc | apply sLd); done) | (refine ex_meet (⟨a16, c16, (((compO z.ns z.ls z.cs (1 + wk % 4)).set (at_ % ((compO z.ns z.ls z.cs (1 + wk % 4)).length : Int)).toNat (y.1, y.2.1, wrap64 (y.2.2.1 + 7), y.2.2.2)).set (at_ % ((compO z.ns z.ls z.cs (1 + wk % 4)).length : Int)).toNat (y.1, y.2.1, wrap64 (y.2.2.1 + 7), wrap64 (y.2.2.2 + 7))), a16, c16, (compO z.ns z.ls z.cs (1 + wk % 4)).length, (((compO z.ns z.ls z.cs (1 + wk % 4)).set (at_ % ((compO z.ns z.ls z.cs (1 + wk % 4)).length : Int)).toNat (y.1, y.2.1, wrap64 (y.2.2.1 + 7), y.2.2.2)).set (at_ % ((compO z.ns z.ls z.cs (1 + wk % 4)).length : Int)).toNat (y.1, y.2.1, wrap64 (y.2.2.1 + 7), wrap64 (y.2.2.2 + 7)))⟩ : YS) ⟨by first | rfl | simp only [List.length_set], fun w h => h⟩ ⟨rfl, rfl, rfl, rfl, rfl, rfl, rfl, trivial⟩ ?_; (repeat first | exact sLn _ | apply sLc | apply sLd); done) | (refine ex_meet (⟨a16, c16, (compO z.ns z.ls z.cs (1 + wk % 4)), (if c16 = 1 then a16 else a16.map (·.add (1 * 4))), c16 - 1, (compO z.ns z.ls z.cs (1 + wk % 4)).length - 1, (compO z.ns z.ls z.cs (1 + wk % 4)).drop 1⟩ : YS) ⟨List.length_drop .., fun w h => h.drop 1 hlen0⟩ ⟨rfl, rfl, rfl, rfl, rfl, rfl, rfl, trivial⟩ ?_; (repeat first | exact sLn _ | apply sLc | apply sLd); done)
                  · skip
                    refine cd_skip ?_
                    refine ex_in_normal ?_
                    first | (refine ex_meet (⟨a16, c16, (compO z.ns z.ls z.cs (1 + wk % 4)), a16, c16, (compO z.ns z.ls z.cs (1 + wk % 4)).length, (compO z.ns z.ls z.cs (1 + wk % 4))⟩ : YS) ⟨by first | rfl | simp only [List.length_set], fun w h => h⟩ ⟨rfl, rfl, rfl, rfl, rfl, rfl, rfl, trivial⟩ ?_; (repeat first | exact sLn _ | apply sLc | apply sLd); done) | (refine ex_meet (⟨a16, c16, (((compO z.ns z.ls z.cs (1 + wk % 4)).set (at_ % ((compO z.ns z.ls z.cs (1 + wk % 4)).length : Int)).toNat (y.1, y.2.1, wrap64 (y.2.2.1 - 1), y.2.2.2)).set (at_ % ((compO z.ns z.ls z.cs (1 + wk % 4)).length : Int)).toNat (y.1, y.2.1, wrap64 (y.2.2.1 - 1), wrap64 (y.2.2.2 - 1))), a16, c16, (compO z.ns z.ls z.cs (1 + wk % 4)).length, (((compO z.ns z.ls z.cs (1 + wk % 4)).set (at_ % ((compO z.ns z.ls z.cs (1 + wk % 4)).length : Int)).toNat (y.1, y.2.1, wrap64 (y.2.2.1 - 1), y.2.2.2)).set (at_ % ((compO z.ns z.ls z.cs (1 + wk % 4)).length : Int)).toNat (y.1, y.2.1, wrap64 (y.2.2.1 - 1), wrap64 (y.2.2.2 - 1)))⟩ : YS) ⟨by first | rfl | simp only [List.length_set], fun w h => h⟩ ⟨rfl, rfl, rfl, rfl, rfl, rfl, rfl, trivial⟩ ?_; (repeat first | exact sLn _ | apply sLc | apply sLd); done) | (refine ex_meet (⟨a16, c16, ((compO z.ns z.ls z.cs (1 + wk % 4)).set (at_ % ((compO z.ns z.ls z.cs (1 + wk % 4)).length : Int)).toNat (y.1, y.2.1, y.2.2.1, wrap64 (y.2.2.2 + 1))), a16, c16, (compO z.ns z.ls z.cs (1 + wk % 4)).length, ((compO z.ns z.ls z.cs (1 + wk % 4)).set (at_ % ((compO z.ns z.ls z.cs (1 + wk % 4)).length : Int)).toNat (y.1, y.2.1, y.2.2.1, wrap64 (y.2.2.2 + 1)))⟩ : YS) ⟨by first | rfl | simp only [List.length_set], fun w h => h⟩ ⟨rfl, rfl, rfl, rfl, rfl, rfl, rfl, trivial⟩ ?_; (repeat first | exact sLn _ | apply sLc | apply sLd); done) | (refine ex_meet (⟨a16, c16, ((compO z.ns z.ls z.cs (1 + wk % 4)).set (at_ % ((compO z.ns z.ls z.cs (1 + wk % 4)).length : Int)).toNat (y.1, at_ % 5, y.2.2.1, y.2.2.2)), a16, c16, (compO z.ns z.ls z.cs (1 + wk % 4)).length, ((compO z.ns z.ls z.cs (1 + wk % 4)).set (at_ % ((compO z.ns z.ls z.cs (1 + wk % 4)).length : Int)).toNat (y.1, at_ % 5, y.2.2.1, y.2.2.2))⟩ : YS) ⟨by first | rfl | simp only [List.length_set], fun w h => h⟩ ⟨rfl, rfl, rfl, rfl, rfl, rfl, rfl, trivial⟩ ?_; (repeat first | exact sLn _ | apply sLc | apply sLd); done) | (refine ex_meet (⟨a16, c16, ((compO z.ns z.ls z.cs (1 + wk % 4)).set (at_ % ((compO z.ns z.ls z.cs (1 + wk % 4)).length : Int)).toNat (wrap64 (y.1 + 1), y.2.1, y.2.2.1, y.2.2.2)), a16, c16, (compO z.ns z.ls z.cs (1 + wk % 4)).length, ((compO z.ns z.ls z.cs (1 + wk % 4)).set (at_ % ((compO z.ns z.ls z.cs (1 + wk % 4)).length : Int)).toNat (wrap64 (y.1 + 1), y.2.1, y.2.2.1, y.2.2.2))⟩ : YS) ⟨by first | rfl | simp only [List.length_set], fun w h => h⟩ ⟨rfl, rfl, rfl, rfl, rfl, rfl, rfl, trivial⟩ ?_; (repeat first | exact sLn _ | apply sLc | apply sLd); done) | (refine ex_meet (⟨a16, c16, (((compO z.ns z.ls z.cs (1 + wk % 4)).set (at_ % ((compO z.ns z.ls z.cs (1 + wk % 4)).length : Int)).toNat (y.1, y.2.1, wrap64 (y.2.2.1 + 7), y.2.2.2)).set (at_ % ((compO z.ns z.ls z.cs (1 + wk % 4)).length : Int)).toNat (y.1, y.2.1, wrap64 (y.2.2.1 + 7), wrap64 (y.2.2.2 + 7))), a16, c16, (compO z.ns z.ls z.cs (1 + wk % 4)).length, (((compO z.ns z.ls z.cs (1 + wk % 4)).set (at_ % ((compO z.ns z.ls z.cs (1 + wk % 4)).length : Int)).toNat (y.1, y.2.1, wrap64 (y.2.2.1 + 7), y.2.2.2)).set (at_ % ((compO z.ns z.ls z.cs (1 + wk % 4)).length : Int)).toNat (y.1, y.2.1, wrap64 (y.2.2.1 + 7), wrap64 (y.2.2.2 + 7)))⟩ : YS) ⟨by first | rfl | simp only [List.length_set], fun w h => h⟩ ⟨rfl, rfl, rfl, rfl, rfl, rfl, rfl, trivial⟩ ?_; (repeat first | exact sLn _ | apply sLc | apply sLd); done) | (refine ex_meet (⟨a16, c16, (compO z.ns z.ls z.cs (1 + wk % 4)), (if c16 = 1 then a16 else a16.map (·.add (1 * 4))), c16 - 1, (compO z.ns z.ls z.cs (1 + wk % 4)).length - 1, (compO z.ns z.ls z.cs (1 + wk % 4)).drop 1⟩ : YS) ⟨List.length_drop .., fun w h => h.drop 1 hlen0⟩ ⟨rfl, rfl, rfl, rfl, rfl, rfl, rfl, trivial⟩ ?_; (repeat first | exact sLn _ | apply sLc | apply sLd); done)
      · skip
        refine cd_skip ?_
        first | (refine ex_meet (⟨a16, c16, (compO z.ns z.ls z.cs (1 + wk % 4)), a16, c16, (compO z.ns z.ls z.cs (1 + wk % 4)).length, (compO z.ns z.ls z.cs (1 + wk % 4))⟩ : YS) ⟨by first | rfl | simp only [List.length_set], fun w h => h⟩ ⟨rfl, rfl, rfl, rfl, rfl, rfl, rfl, trivial⟩ ?_; (repeat first | exact sLn _ | apply sLc | apply sLd); done) | (refine ex_meet (⟨a16, c16, (((compO z.ns z.ls z.cs (1 + wk % 4)).set (at_ % ((compO z.ns z.ls z.cs (1 + wk % 4)).length : Int)).toNat (y.1, y.2.1, wrap64 (y.2.2.1 - 1), y.2.2.2)).set (at_ % ((compO z.ns z.ls z.cs (1 + wk % 4)).length : Int)).toNat (y.1, y.2.1, wrap64 (y.2.2.1 - 1), wrap64 (y.2.2.2 - 1))), a16, c16, (compO z.ns z.ls z.cs (1 + wk % 4)).length, (((compO z.ns z.ls z.cs (1 + wk % 4)).set (at_ % ((compO z.ns z.ls z.cs (1 + wk % 4)).length : Int)).toNat (y.1, y.2.1, wrap64 (y.2.2.1 - 1), y.2.2.2)).set (at_ % ((compO z.ns z.ls z.cs (1 + wk % 4)).length : Int)).toNat (y.1, y.2.1, wrap64 (y.2.2.1 - 1), wrap64 (y.2.2.2 - 1)))⟩ : YS) ⟨by first | rfl | simp only [List.length_set], fun w h => h⟩ ⟨rfl, rfl, rfl, rfl, rfl, rfl, rfl, trivial⟩ ?_; (repeat first | exact sLn _ | apply sLc | apply sLd); done) | (refine ex_meet (⟨a16, c16, ((compO z.ns z.ls z.cs (1 + wk % 4)).set (at_ % ((compO z.ns z.ls z.cs (1 + wk % 4)).length : Int)).toNat (y.1, y.2.1, y.2.2.1, wrap64 (y.2.2.2 + 1))), a16, c16, (compO z.ns z.ls z.cs (1 + wk % 4)).length, ((compO z.ns z.ls z.cs (1 + wk % 4)).set (at_ % ((compO z.ns z.ls z.cs (1 + wk % 4)).length : Int)).toNat (y.1, y.2.1, y.2.2.1, wrap64 (y.2.2.2 + 1)))⟩ : YS) ⟨by first | rfl | simp only [List.length_set], fun w h => h⟩ ⟨rfl, rfl, rfl, rfl, rfl, rfl, rfl, trivial⟩ ?_; (repeat first | exact sLn _ | apply sLc | apply sLd); done) | (refine ex_meet (⟨a16, c16, ((compO z.ns z.ls z.cs (1 + wk % 4)).set (at_ % ((compO z.ns z.ls z.cs (1 + wk % 4)).length : Int)).toNat (y.1, at_ % 5, y.2.2.1, y.2.2.2)), a16, c16, (compO z.ns z.ls z.cs (1 + wk % 4)).length, ((compO z.ns z.ls z.cs (1 + wk % 4)).set (at_ % ((compO z.ns z.ls z.cs (1 + wk % 4)).length : Int)).toNat (y.1, at_ % 5, y.2.2.1, y.2.2.2))⟩ : YS) ⟨by first | rfl | simp only [List.length_set], fun w h => h⟩ ⟨rfl, rfl, rfl, rfl, rfl, rfl, rfl, trivial⟩ ?_; (repeat first | exact sLn _ | apply sLc | apply sLd); done) | (refine ex_meet (⟨a16, c16, ((compO z.ns z.ls z.cs (1 + wk % 4)).set (at_ % ((compO z.ns z.ls z.cs (1 + wk % 4)).length : Int)).toNat (wrap64 (y.1 + 1), y.2.1, y.2.2.1, y.2.2.2)), a16, c16, (compO z.ns z.ls z.cs (1 + wk % 4)).length, ((compO z.ns z.ls z.cs (1 + wk % 4)).set (at_ % ((compO z.ns z.ls z.cs (1 + wk % 4)).length : Int)).toNat (wrap64 (y.1 + 1), y.2.1, y.2.2.1, y.2.2.2))⟩ : YS) ⟨by first | rfl | simp only [List.length_set], fun w h => h⟩ ⟨rfl, rfl, rfl, rfl, rfl, rfl, rfl, trivial⟩ ?_; (repeat first | exact sLn _ | apply sLc | apply sLd); done) | (refine ex_meet (⟨a16, c16, (((compO z.ns z.ls z.cs (1 + wk % 4)).set (at_ % ((compO z.ns z.ls z.cs (1 + wk % 4)).length : Int)).toNat (y.1, y.2.1, wrap64 (y.2.2.1 + 7), y.2.2.2)).set (at_ % ((compO z.ns z.ls z.cs (1 + wk % 4)).length : Int)).toNat (y.1, y.2.1, wrap64 (y.2.2.1 + 7), wrap64 (y.2.2.2 + 7))), a16, c16, (compO z.ns z.ls z.cs (1 + wk % 4)).length, (((compO z.ns z.ls z.cs (1 + wk % 4)).set (at_ % ((compO z.ns z.ls z.cs (1 + wk % 4)).length : Int)).toNat (y.1, y.2.1, wrap64 (y.2.2.1 + 7), y.2.2.2)).set (at_ % ((compO z.ns z.ls z.cs (1 + wk % 4)).length : Int)).toNat (y.1, y.2.1, wrap64 (y.2.2.1 + 7), wrap64 (y.2.2.2 + 7)))⟩ : YS) ⟨by first | rfl | simp only [List.length_set], fun w h => h⟩ ⟨rfl, rfl, rfl, rfl, rfl, rfl, rfl, trivial⟩ ?_; (repeat first | exact sLn _ | apply sLc | apply sLd); done) | (refine ex_meet (⟨a16, c16, (compO z.ns z.ls z.cs (1 + wk % 4)), (if c16 = 1 then a16 else a16.map (·.add (1 * 4))), c16 - 1, (compO z.ns z.ls z.cs (1 + wk % 4)).length - 1, (compO z.ns z.ls z.cs (1 + wk % 4)).drop 1⟩ : YS) ⟨List.length_drop .., fun w h => h.drop 1 hlen0⟩ ⟨rfl, rfl, rfl, rfl, rfl, rfl, rfl, trivial⟩ ?_; (repeat first | exact sLn _ | apply sLc | apply sLd); done)
    · rintro ⟨ra, rc, ry, ya, yc, yl, ys⟩ ⟨hyl, hys⟩
      dsimp only at hyl hys ⊢
      subst hyl
      refine cd_seq ?_
      refine cd_seq ?_
      refine cd_region ?_
      refine at_pure (pv_move rfl) rfl ?_
      refine at_pure (pv_move rfl) rfl ?_
      refine at_pure (pv_move rfl) rfl ?_
      refine at_does (does_list (by rfl) (by exact (bs_40_3_0_1_2 _ _ _ _ _ _ _ _ _)) (by exact (fun _ => (.cons (.cons (.cons (.cons (.cons (.cons .nil))))))))) rfl (fun g3 => ?_)
      refine at_pure (pv_len Try.underlying40 rfl) rfl ?_
      refine at_pure (pv_move rfl) rfl ?_
      refine at_nil ?_
      refine ex_go ?_
      refine cd_block ?_
      refine cd_rounds 3 ?_
      refine cd_seq ?_
      refine cd_region ?_
      refine at_pure (pv_lss rfl rfl) rfl ?_
      refine at_nil ?_
      refine ex_go ?_
      refine cd_seq ?_
      refine cd_then rfl (by decide) ?_
      refine cd_skip ?_
      refine ex_go ?_
      refine cd_seq ?_
      refine cd_block ?_
      refine cd_seq ?_
      refine cd_region ?_
      refine at_pure (pv_indexLit Try.underlying40 cz_23 rfl rfl (by decide) rfl) rfl ?_
      refine at_pure (by exact pv_load ld_23 rfl (box_cell (.s (.s (.s (.s (.s (.s .z)))))) .z)) rfl ?_
      refine at_pure (pv_assign rfl) rfl ?_
      refine at_nil ?_
      refine ex_go ?_
      refine cd_seq ?_
      refine cd_draw' 24 follows ?_
      refine dr_take 0 rfl (by kernel_rfl) (.refl _) (by exact pv_loads_box ag_28 rfl (.s (.s (.s .z))) (.take (.take .done))) rfl ?_
      refine dr_take 1 rfl (by kernel_rfl) (.refl _) (pv_move rfl) rfl ?_
      refine dr_take 2 rfl (by kernel_rfl) (.refl _) (pv_move rfl) rfl ?_
      refine dr_take 3 rfl (by kernel_rfl) (.refl _) (pv_move rfl) rfl ?_
      refine dr_take 5 rfl (by kernel_rfl) (.refl _) (by exact pv_loads_box ag_28 rfl (.s (.s (.s .z))) (.take (.take .done))) rfl ?_
      refine dr_take 6 rfl (by kernel_rfl) (.refl _) (pv_move rfl) rfl ?_
      refine dr_take 7 rfl (by kernel_rfl) (.refl _) (pv_move rfl) rfl ?_
      refine dr_take 8 rfl (by kernel_rfl) (.refl _) (pv_move rfl) rfl ?_
      refine dr_one 4 (by kernel_rfl) rfl ?_
      refine at_does (does_val cal15 rfl rfl rfl (fun w hs => valid25_go z.an z.al z.cn z.cl z.ns z.ls z.ac z.cc z.cs (1 + wk % 4) u.1 u.2 (compO z.ns z.ls z.cs (1 + wk % 4)) w (hs.rows len4 (by decide) .z) (hs.rows len4 (by decide) (.s .z)) (hs.rows len1 (by decide) (.s (.s .z))) (hs.rows len4 (by decide) (.s (.s (.s (.s .z))))))) rfl (fun _ => ?_)
      refine at_nil (dr_next (fun _ => (.refl _)) ?_)
      refine dr_one 9 (by kernel_rfl) rfl ?_
      refine at_does (does_val cal16 rfl rfl rfl (fun w hs => validR z.an z.al z.cn z.cl z.ns z.ls z.ac z.cc z.cs (1 + wk % 4) u.1 u.2 (compO z.ns z.ls z.cs (1 + wk % 4)) w (hs.rows len4 (by decide) .z) (hs.rows len4 (by decide) (.s .z)) (hs.rows len1 (by decide) (.s (.s .z))) (hs.rows len4 (by decide) (.s (.s (.s (.s .z))))))) rfl (fun _ => ?_)
      refine at_nil (dr_next (fun _ => (.refl _)) ?_)
      refine dr_take 10 rfl (by kernel_rfl) (.refl _) (pv_neq_b_same Try.underlying4 rfl rfl) rfl ?_
      refine dr_take 11 rfl (by kernel_rfl) (.refl _) (pv_move rfl) rfl ?_
      refine dr_take_g 12 rfl rfl rfl rfl (by kernel_rfl) (.refl _) (by exact pv_loads_box ag_28 rfl (.s (.s (.s .z))) (.take (.take .done))) rfl ?_
      refine dr_take_g 13 rfl rfl rfl rfl (by kernel_rfl) (.refl _) (pv_move rfl) rfl ?_
      refine dr_take_g 14 rfl rfl rfl rfl (by kernel_rfl) (.refl _) (pv_move rfl) rfl ?_
      refine dr_take_g 15 rfl rfl rfl rfl (by kernel_rfl) (.refl _) (pv_move rfl) rfl ?_
      refine dr_take_g 17 rfl rfl rfl rfl (by kernel_rfl) (.refl _) (by exact pv_loads_box ag_28 rfl (.s (.s (.s .z))) (.take (.take .done))) rfl ?_
      refine dr_take_g 18 rfl rfl rfl rfl (by kernel_rfl) (.refl _) (pv_move rfl) rfl ?_
      refine dr_take_g 19 rfl rfl rfl rfl (by kernel_rfl) (.refl _) (pv_move rfl) rfl ?_
      refine dr_take_g 20 rfl rfl rfl rfl (by kernel_rfl) (.refl _) (pv_move rfl) rfl ?_
      refine dr_one 16 (by kernel_rfl) rfl ?_
      refine at_does_g rfl rfl rfl (does_val cal15 rfl rfl rfl (fun w hs => valid25_go z.an z.al z.cn z.cl z.ns z.ls z.ac z.cc z.cs (wk) u.1 u.2 (compO z.ns z.ls z.cs (1 + wk % 4)) w (hs.rows len4 (by decide) .z) (hs.rows len4 (by decide) (.s .z)) (hs.rows len1 (by decide) (.s (.s .z))) (hs.rows len4 (by decide) (.s (.s (.s (.s .z))))))) rfl (fun _ => ?_)
      refine at_nil (dr_next (fun _ => (.refl _)) ?_)
      refine dr_one 21 (by kernel_rfl) rfl ?_
      refine at_does_g rfl rfl rfl (does_val cal16 rfl rfl rfl (fun w hs => validR z.an z.al z.cn z.cl z.ns z.ls z.ac z.cc z.cs (wk) u.1 u.2 (compO z.ns z.ls z.cs (1 + wk % 4)) w (hs.rows len4 (by decide) .z) (hs.rows len4 (by decide) (.s .z)) (hs.rows len1 (by decide) (.s (.s .z))) (hs.rows len4 (by decide) (.s (.s (.s (.s .z))))))) rfl (fun _ => ?_)
      refine at_nil (dr_next (fun _ => (.refl _)) ?_)
      refine dr_take_g 22 rfl rfl rfl rfl (by kernel_rfl) (.refl _) (pv_neq_b_same Try.underlying4 rfl rfl) rfl ?_
      refine dr_take 23 rfl (by kernel_rfl) (.refl _) (pv_pick_f rfl rfl rfl) rfl ?_
      refine dr_done (by kernel_rfl) ?_
      refine ex_go ?_
      refine cd_else rfl rfl ?_
      refine cd_skip ?_
      refine ex_in_normal (ex_go ?_)
      refine cd_region ?_
      refine at_pure (by first | exact pv_add_n rfl rfl (by unfold In64; omega) | exact pv_add rfl rfl) rfl ?_
      refine at_pure (pv_move rfl) rfl ?_
      refine at_nil ?_
      refine ex_round ?_
      refine cd_seq ?_
      refine cd_region ?_
      refine at_pure (pv_lss rfl rfl) rfl ?_
      refine at_nil ?_
      refine ex_go ?_
      refine cd_seq ?_
      refine cd_then rfl (by decide) ?_
      refine cd_skip ?_
      refine ex_go ?_
      refine cd_seq ?_
      refine cd_block ?_
      refine cd_seq ?_
      refine cd_region ?_
      refine at_pure (pv_indexLit Try.underlying40 cz_23 rfl rfl (by decide) rfl) rfl ?_
      refine at_pure (by exact pv_load ld_23 rfl (box_cell (.s (.s (.s (.s (.s (.s .z)))))) (.s .z))) rfl ?_
      refine at_pure (pv_assign rfl) rfl ?_
      refine at_nil ?_
      refine ex_go ?_
      refine cd_seq ?_
      refine cd_draw' 24 follows ?_
      refine dr_take 0 rfl (by kernel_rfl) (.refl _) (by exact pv_loads_box ag_28 rfl (.s (.s (.s .z))) (.take (.take .done))) rfl ?_
      refine dr_take 1 rfl (by kernel_rfl) (.refl _) (pv_move rfl) rfl ?_
      refine dr_take 2 rfl (by kernel_rfl) (.refl _) (pv_move rfl) rfl ?_
      refine dr_take 3 rfl (by kernel_rfl) (.refl _) (pv_move rfl) rfl ?_
      refine dr_take 5 rfl (by kernel_rfl) (.refl _) (by exact pv_loads_box ag_28 rfl (.s (.s (.s .z))) (.take (.take .done))) rfl ?_
      refine dr_take 6 rfl (by kernel_rfl) (.refl _) (pv_move rfl) rfl ?_
      refine dr_take 7 rfl (by kernel_rfl) (.refl _) (pv_move rfl) rfl ?_
      refine dr_take 8 rfl (by kernel_rfl) (.refl _) (pv_move rfl) rfl ?_
      refine dr_one 4 (by kernel_rfl) rfl ?_
      refine at_does (does_val cal15 rfl rfl rfl (fun w hs => valid25_go z.an z.al z.cn z.cl z.ns z.ls z.ac z.cc z.cs (1 + wk % 4) ya yc ys w (hs.rows len4 (by decide) .z) (hs.rows len4 (by decide) (.s .z)) (hs.rows len1 (by decide) (.s (.s .z))) (hys w (hs.rows len4 (by decide) (.s (.s (.s (.s (.s .z))))))))) rfl (fun _ => ?_)
      refine at_nil (dr_next (fun _ => (.refl _)) ?_)
      refine dr_one 9 (by kernel_rfl) rfl ?_
      refine at_does (does_val cal16 rfl rfl rfl (fun w hs => validR z.an z.al z.cn z.cl z.ns z.ls z.ac z.cc z.cs (1 + wk % 4) ya yc ys w (hs.rows len4 (by decide) .z) (hs.rows len4 (by decide) (.s .z)) (hs.rows len1 (by decide) (.s (.s .z))) (hys w (hs.rows len4 (by decide) (.s (.s (.s (.s (.s .z))))))))) rfl (fun _ => ?_)
      refine at_nil (dr_next (fun _ => (.refl _)) ?_)
      refine dr_take 10 rfl (by kernel_rfl) (.refl _) (pv_neq_b_same Try.underlying4 rfl rfl) rfl ?_
      refine dr_take 11 rfl (by kernel_rfl) (.refl _) (pv_move rfl) rfl ?_
      refine dr_take_g 12 rfl rfl rfl rfl (by kernel_rfl) (.refl _) (by exact pv_loads_box ag_28 rfl (.s (.s (.s .z))) (.take (.take .done))) rfl ?_
      refine dr_take_g 13 rfl rfl rfl rfl (by kernel_rfl) (.refl _) (pv_move rfl) rfl ?_
      refine dr_take_g 14 rfl rfl rfl rfl (by kernel_rfl) (.refl _) (pv_move rfl) rfl ?_
      refine dr_take_g 15 rfl rfl rfl rfl (by kernel_rfl) (.refl _) (pv_move rfl) rfl ?_
      refine dr_take_g 17 rfl rfl rfl rfl (by kernel_rfl) (.refl _) (by exact pv_loads_box ag_28 rfl (.s (.s (.s .z))) (.take (.take .done))) rfl ?_
      refine dr_take_g 18 rfl rfl rfl rfl (by kernel_rfl) (.refl _) (pv_move rfl) rfl ?_
      refine dr_take_g 19 rfl rfl rfl rfl (by kernel_rfl) (.refl _) (pv_move rfl) rfl ?_
      refine dr_take_g 20 rfl rfl rfl rfl (by kernel_rfl) (.refl _) (pv_move rfl) rfl ?_
      refine dr_one 16 (by kernel_rfl) rfl ?_
      refine at_does_g rfl rfl rfl (does_val cal15 rfl rfl rfl (fun w hs => valid25_go z.an z.al z.cn z.cl z.ns z.ls z.ac z.cc z.cs (wk) ya yc ys w (hs.rows len4 (by decide) .z) (hs.rows len4 (by decide) (.s .z)) (hs.rows len1 (by decide) (.s (.s .z))) (hys w (hs.rows len4 (by decide) (.s (.s (.s (.s (.s .z))))))))) rfl (fun _ => ?_)
      refine at_nil (dr_next (fun _ => (.refl _)) ?_)
      refine dr_one 21 (by kernel_rfl) rfl ?_
      refine at_does_g rfl rfl rfl (does_val cal16 rfl rfl rfl (fun w hs => validR z.an z.al z.cn z.cl z.ns z.ls z.ac z.cc z.cs (wk) ya yc ys w (hs.rows len4 (by decide) .z) (hs.rows len4 (by decide) (.s .z)) (hs.rows len1 (by decide) (.s (.s .z))) (hys w (hs.rows len4 (by decide) (.s (.s (.s (.s (.s .z))))))))) rfl (fun _ => ?_)
      refine at_nil (dr_next (fun _ => (.refl _)) ?_)
      refine dr_take_g 22 rfl rfl rfl rfl (by kernel_rfl) (.refl _) (pv_neq_b_same Try.underlying4 rfl rfl) rfl ?_
      refine dr_take 23 rfl (by kernel_rfl) (.refl _) (pv_pick_f rfl rfl rfl) rfl ?_
      refine dr_done (by kernel_rfl) ?_
      refine ex_go ?_
      refine cd_else rfl rfl ?_
      refine cd_skip ?_
      refine ex_in_normal (ex_go ?_)
      refine cd_region ?_
      refine at_pure (by first | exact pv_add_n rfl rfl (by unfold In64; omega) | exact pv_add rfl rfl) rfl ?_
      refine at_pure (pv_move rfl) rfl ?_
      refine at_nil ?_
      refine ex_round ?_
      refine cd_seq ?_
      refine cd_region ?_
      refine at_pure (pv_lss rfl rfl) rfl ?_
      refine at_nil ?_
      refine ex_go ?_
      refine cd_seq ?_
      refine cd_then rfl (by decide) ?_
      refine cd_skip ?_
      refine ex_go ?_
      refine cd_seq ?_
      refine cd_block ?_
      refine cd_seq ?_
      refine cd_region ?_
      refine at_pure (pv_indexLit Try.underlying40 cz_23 rfl rfl (by decide) rfl) rfl ?_
      refine at_pure (by exact pv_load ld_23 rfl (box_cell (.s (.s (.s (.s (.s (.s .z)))))) (.s (.s .z)))) rfl ?_
      refine at_pure (pv_assign rfl) rfl ?_
      refine at_nil ?_
      refine ex_go ?_
      refine cd_seq ?_
      refine cd_draw' 24 follows ?_
      refine dr_take 0 rfl (by kernel_rfl) (.refl _) (by exact pv_loads_box ag_28 rfl (.s (.s (.s .z))) (.take (.take .done))) rfl ?_
      refine dr_take 1 rfl (by kernel_rfl) (.refl _) (pv_move rfl) rfl ?_
      refine dr_take 2 rfl (by kernel_rfl) (.refl _) (pv_move rfl) rfl ?_
      refine dr_take 3 rfl (by kernel_rfl) (.refl _) (pv_move rfl) rfl ?_
      refine dr_take 5 rfl (by kernel_rfl) (.refl _) (by exact pv_loads_box ag_28 rfl (.s (.s (.s .z))) (.take (.take .done))) rfl ?_
      refine dr_take 6 rfl (by kernel_rfl) (.refl _) (pv_move rfl) rfl ?_
      refine dr_take 7 rfl (by kernel_rfl) (.refl _) (pv_move rfl) rfl ?_
      refine dr_take 8 rfl (by kernel_rfl) (.refl _) (pv_move rfl) rfl ?_
      refine dr_one 4 (by kernel_rfl) rfl ?_
      refine at_does (does_val cal15 rfl rfl rfl (fun w hs => valid25_go z.an z.al z.cn z.cl z.ns z.ls z.ac z.cc z.cs (1 + wk % 4) c1 cc1 raw w (hs.rows len4 (by decide) .z) (hs.rows len4 (by decide) (.s .z)) (hs.rows len1 (by decide) (.s (.s .z))) (hraw.at' hs))) rfl (fun _ => ?_)
      refine at_nil (dr_next (fun _ => (.refl _)) ?_)
      refine dr_one 9 (by kernel_rfl) rfl ?_
      refine at_does (does_val cal16 rfl rfl rfl (fun w hs => validR z.an z.al z.cn z.cl z.ns z.ls z.ac z.cc z.cs (1 + wk % 4) c1 cc1 raw w (hs.rows len4 (by decide) .z) (hs.rows len4 (by decide) (.s .z)) (hs.rows len1 (by decide) (.s (.s .z))) (hraw.at' hs))) rfl (fun _ => ?_)
      refine at_nil (dr_next (fun _ => (.refl _)) ?_)
      refine dr_take 10 rfl (by kernel_rfl) (.refl _) (pv_neq_b_same Try.underlying4 rfl rfl) rfl ?_
      refine dr_take 11 rfl (by kernel_rfl) (.refl _) (pv_move rfl) rfl ?_
      refine dr_take_g 12 rfl rfl rfl rfl (by kernel_rfl) (.refl _) (by exact pv_loads_box ag_28 rfl (.s (.s (.s .z))) (.take (.take .done))) rfl ?_
      refine dr_take_g 13 rfl rfl rfl rfl (by kernel_rfl) (.refl _) (pv_move rfl) rfl ?_
      refine dr_take_g 14 rfl rfl rfl rfl (by kernel_rfl) (.refl _) (pv_move rfl) rfl ?_
      refine dr_take_g 15 rfl rfl rfl rfl (by kernel_rfl) (.refl _) (pv_move rfl) rfl ?_
      refine dr_take_g 17 rfl rfl rfl rfl (by kernel_rfl) (.refl _) (by exact pv_loads_box ag_28 rfl (.s (.s (.s .z))) (.take (.take .done))) rfl ?_
      refine dr_take_g 18 rfl rfl rfl rfl (by kernel_rfl) (.refl _) (pv_move rfl) rfl ?_
      refine dr_take_g 19 rfl rfl rfl rfl (by kernel_rfl) (.refl _) (pv_move rfl) rfl ?_
      refine dr_take_g 20 rfl rfl rfl rfl (by kernel_rfl) (.refl _) (pv_move rfl) rfl ?_
      refine dr_one 16 (by kernel_rfl) rfl ?_
      refine at_does_g rfl rfl rfl (does_val cal15 rfl rfl rfl (fun w hs => valid25_go z.an z.al z.cn z.cl z.ns z.ls z.ac z.cc z.cs (wk) c1 cc1 raw w (hs.rows len4 (by decide) .z) (hs.rows len4 (by decide) (.s .z)) (hs.rows len1 (by decide) (.s (.s .z))) (hraw.at' hs))) rfl (fun _ => ?_)
      refine at_nil (dr_next (fun _ => (.refl _)) ?_)
      refine dr_one 21 (by kernel_rfl) rfl ?_
      refine at_does_g rfl rfl rfl (does_val cal16 rfl rfl rfl (fun w hs => validR z.an z.al z.cn z.cl z.ns z.ls z.ac z.cc z.cs (wk) c1 cc1 raw w (hs.rows len4 (by decide) .z) (hs.rows len4 (by decide) (.s .z)) (hs.rows len1 (by decide) (.s (.s .z))) (hraw.at' hs))) rfl (fun _ => ?_)
      refine at_nil (dr_next (fun _ => (.refl _)) ?_)
      refine dr_take_g 22 rfl rfl rfl rfl (by kernel_rfl) (.refl _) (pv_neq_b_same Try.underlying4 rfl rfl) rfl ?_
      refine dr_take 23 rfl (by kernel_rfl) (.refl _) (pv_pick_f rfl rfl rfl) rfl ?_
      refine dr_done (by kernel_rfl) ?_
      refine ex_go ?_
      refine cd_else rfl rfl ?_
      refine cd_skip ?_
      refine ex_in_normal (ex_go ?_)
      refine cd_region ?_
      refine at_pure (by first | exact pv_add_n rfl rfl (by unfold In64; omega) | exact pv_add rfl rfl) rfl ?_
      refine at_pure (pv_move rfl) rfl ?_
      refine at_nil ?_
      refine ex_round ?_
      refine cd_seq ?_
      refine cd_region ?_
      refine at_pure (pv_lss rfl rfl) rfl ?_
      refine at_nil ?_
      refine ex_go ?_
      refine cd_seq ?_
      refine cd_else rfl (by decide) ?_
      refine cd_exit ?_
      refine ex_then_exit (ex_then_exit (ex_in (ex_go ?_)))
      refine cd_seq ?_
      refine cd_region ?_
      refine at_pure (pv_assign rfl) rfl ?_
      refine at_nil ?_
      refine ex_go ?_
      refine cd_ret ?_
      exact end_ret1 rfl rfl (fun w hs => ⟨rfl, hs.keep⟩)

end Go.Proofs.Ytkejdfnpbkdllaa
