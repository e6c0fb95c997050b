/- The schedule: one step of the plan. -/
import Derived.Test.YtkejdfnpbkdllaaF25
import Derived.Test.YtkejdfnpbkdllaaSchP
set_option linter.unusedVariables false
set_option linter.unusedSimpArgs false
set_option maxRecDepth 20000
namespace Go.Proofs.Ytkejdfnpbkdllaa
open Go Go.RowKit Go.Proofs.YtkejdfnpbkdllaaV
theorem ready_call {a b : Option Addr} {ca cb : Nat} {ns ls : List Q4} {c : Option Addr} {cc : Nat} {cs : List Int} {p : PZ} {gl : Nat} {st : CS} {fa ea sa : Option Addr} {fl fc ec sl sc : Nat} {w w' : World} (hg : VG ns ls)
    (hpx : w.heap[p.gp]? = some (.cells ([.slice a ns.length ca, .slice b ls.length cb, .slice c cs.length cc, .map (some p.gm), .slice p.oa (placesO ns ls).length p.oc, .slice (some ⟨p.gb, 0, none⟩) ns.length ns.length] : List Value).toArray 90 (0, 0))) (ho : Sl [] enc1 1 w p.oa p.oc (placesO ns ls)) (hbf : Sl [] encH 1 w (some ⟨p.gb, 0, none⟩) ns.length p.hds) (hrows : ∀ h ∈ p.hds, Sl [] enc1 1 w h.1 h.2.1 h.2.2) (hok : PbOk ns ls p) (hc : Sl [] enc1 1 w c cc cs)
    (hpl : w.heap[gl]? = some (.cells ([.pointer (some ⟨p.gp, 0, none⟩), .int .i64 st.t, .slice fa fl fc, .slice ea (endsOf ns st.l).length ec, .slice sa sl sc] : List Value).toArray 96 (0, 0))) (he : Sl [] enc1 1 w ea ec (endsOf ns st.l)) (kp : Keep [] w w') {k : Int} (hk : k ∈ placesO ns ls) :
    Calls Try.prog 73 [.pointer (some ⟨gl, 0, none⟩), .int .i64 k].toArray w' (Val (.bool (readyK (endsOf ns st.l) st.t ((p.hds.getD k.toNat (none, 0, [])).2.2) k)) w') := by
  obtain ⟨i, hi, rfl⟩ := List.mem_map.1 hk
  have hin := (good_order ls hg.nd).1.sub i hi
  have hpl2 := place_in hin
  obtain ⟨hh, hhk⟩ := get_of (xs := p.hds) (k := (placeI ns i).toNat) (by rw [hok.bef.1]; omega)
  obtain ⟨y, hy, hyi⟩ := place_get hpl2.1
  have hrow := hok.bef.2 _ hh y hhk hy
  have e : p.hds.getD (placeI ns i).toNat (none, 0, []) = hh := by rw [List.getD_eq_getElem?_getD, hhk]; rfl
  rw [e]
  refine ready_go a b ca cb ns ls c cc cs p gl st.t fa ea sa fl fc ec sl sc (endsOf ns st.l) (placeI ns i) hh w' (block_keep hpx kp) (ho.keep kp) (hbf.keep kp) (fun h hh' => (hrows h hh').keep kp) hok (hc.keep kp) (block_keep hpl kp) (he.keep kp) hpl2 (endsOf_len ns st.l) hhk (fun z hz => ?_)
  rw [hrow] at hz
  unfold befRow linksTo at hz
  obtain ⟨l, hl, rfl⟩ := List.mem_map.1 hz
  have := place_in (ports_ends (hg.port l ((List.mem_filter.1 hl).1))).1
  rw [endsOf_len]
  exact this
theorem ready_fIx {ns ls : List Q4} {p : PZ} {st : CS} (hg : VG ns ls) (hok : PbOk ns ls p) (h : ∀ s ∈ st.l, 0 ≤ s.2.2.2) : fIx (fun k : Int => readyK (endsOf ns st.l) st.t ((p.hds.getD k.toNat (none, 0, [])).2.2) k) (placesO ns ls) 0 = fIx (okNext ls st.l st.t) (orderS ns ls) 0 := by
  unfold placesO
  rw [fIx_map]
  refine fIx_congr fun i hi => ?_
  have hin := (good_order ls hg.nd).1.sub i hi
  have hpl2 := place_in hin
  obtain ⟨hh, hhk⟩ := get_of (xs := p.hds) (k := (placeI ns i).toNat) (by rw [hok.bef.1]; omega)
  obtain ⟨y, hy, hyi⟩ := place_get hpl2.1
  have hrow := hok.bef.2 _ hh y hhk hy
  have e : p.hds.getD (placeI ns i).toNat (none, 0, []) = hh := by rw [List.getD_eq_getElem?_getD, hhk]; rfl
  rw [e, hrow, hyi]
  exact ready_eq hg h hpl2.1

set_option maxRecDepth 10000 in
set_option maxHeartbeats 4000000 in
theorem step_go (a b : Option Addr) (ca cb : Nat) (ns ls : List Q4) (c : Option Addr) (cc : Nat) (cs : List Int) (p : PZ) (gl gf ge : Nat) (sa : Option Addr) (sc wk : Nat) (st : CS) (w : World) (h : St (foots [MapP fI p.gm p.pm, RowP encH 1 22 (some ⟨p.gb, 0, none⟩) ns.length p.hds, Box p.gp [.slice a ns.length ca, .slice b ls.length cb, .slice c cs.length cc, .map (some p.gm), .slice p.oa (placesO ns ls).length p.oc, .slice (some ⟨p.gb, 0, none⟩) ns.length ns.length] 90, RowP enc1 1 3 p.oa p.oc (placesO ns ls), RowsP enc1 1 3 p.hds, RowP enc1 1 3 (some ⟨gf, 0, none⟩) wk st.b, RowP enc1 1 3 (some ⟨ge, 0, none⟩) ns.length (endsOf ns st.l), Box gl [.pointer (some ⟨p.gp, 0, none⟩), .int .i64 st.t, .slice (some ⟨gf, 0, none⟩) (st.b).length wk, .slice (some ⟨ge, 0, none⟩) (endsOf ns st.l).length ns.length, .slice sa (st.l).length sc] 96, RowP enc4 4 39 sa sc st.l]) w w [MapP fI p.gm p.pm, RowP encH 1 22 (some ⟨p.gb, 0, none⟩) ns.length p.hds, Box p.gp [.slice a ns.length ca, .slice b ls.length cb, .slice c cs.length cc, .map (some p.gm), .slice p.oa (placesO ns ls).length p.oc, .slice (some ⟨p.gb, 0, none⟩) ns.length ns.length] 90, RowP enc1 1 3 p.oa p.oc (placesO ns ls), RowsP enc1 1 3 p.hds, RowP enc1 1 3 (some ⟨gf, 0, none⟩) wk st.b, RowP enc1 1 3 (some ⟨ge, 0, none⟩) ns.length (endsOf ns st.l), Box gl [.pointer (some ⟨p.gp, 0, none⟩), .int .i64 st.t, .slice (some ⟨gf, 0, none⟩) (st.b).length wk, .slice (some ⟨ge, 0, none⟩) (endsOf ns st.l).length ns.length, .slice sa (st.l).length sc] 96, RowP enc4 4 39 sa sc st.l]) (hn : Sl (foots [MapP fI p.gm p.pm, RowP encH 1 22 (some ⟨p.gb, 0, none⟩) ns.length p.hds, Box p.gp [.slice a ns.length ca, .slice b ls.length cb, .slice c cs.length cc, .map (some p.gm), .slice p.oa (placesO ns ls).length p.oc, .slice (some ⟨p.gb, 0, none⟩) ns.length ns.length] 90, RowP enc1 1 3 p.oa p.oc (placesO ns ls), RowsP enc1 1 3 p.hds, RowP enc1 1 3 (some ⟨gf, 0, none⟩) wk st.b, RowP enc1 1 3 (some ⟨ge, 0, none⟩) ns.length (endsOf ns st.l), Box gl [.pointer (some ⟨p.gp, 0, none⟩), .int .i64 st.t, .slice (some ⟨gf, 0, none⟩) (st.b).length wk, .slice (some ⟨ge, 0, none⟩) (endsOf ns st.l).length ns.length, .slice sa (st.l).length sc] 96, RowP enc4 4 39 sa sc st.l]) enc4 4 w a ca ns) (hc : Sl (foots [MapP fI p.gm p.pm, RowP encH 1 22 (some ⟨p.gb, 0, none⟩) ns.length p.hds, Box p.gp [.slice a ns.length ca, .slice b ls.length cb, .slice c cs.length cc, .map (some p.gm), .slice p.oa (placesO ns ls).length p.oc, .slice (some ⟨p.gb, 0, none⟩) ns.length ns.length] 90, RowP enc1 1 3 p.oa p.oc (placesO ns ls), RowsP enc1 1 3 p.hds, RowP enc1 1 3 (some ⟨gf, 0, none⟩) wk st.b, RowP enc1 1 3 (some ⟨ge, 0, none⟩) ns.length (endsOf ns st.l), Box gl [.pointer (some ⟨p.gp, 0, none⟩), .int .i64 st.t, .slice (some ⟨gf, 0, none⟩) (st.b).length wk, .slice (some ⟨ge, 0, none⟩) (endsOf ns st.l).length ns.length, .slice sa (st.l).length sc] 96, RowP enc4 4 39 sa sc st.l]) enc1 1 w c cc cs) (hok : PbOk ns ls p) (hp : problemS ns ls cs (wk : Int) = true) (hR : Run ns ls cs wk st) (hlen : st.l.length < ns.length) : Calls Try.prog 47 [Value.pointer (some ⟨gl, 0, none⟩)].toArray w (Uses [MapP fI p.gm p.pm, RowP encH 1 22 (some ⟨p.gb, 0, none⟩) ns.length p.hds, Box p.gp [.slice a ns.length ca, .slice b ls.length cb, .slice c cs.length cc, .map (some p.gm), .slice p.oa (placesO ns ls).length p.oc, .slice (some ⟨p.gb, 0, none⟩) ns.length ns.length] 90, RowP enc1 1 3 p.oa p.oc (placesO ns ls), RowsP enc1 1 3 p.hds, RowP enc1 1 3 (some ⟨gf, 0, none⟩) wk st.b, RowP enc1 1 3 (some ⟨ge, 0, none⟩) ns.length (endsOf ns st.l), Box gl [.pointer (some ⟨p.gp, 0, none⟩), .int .i64 st.t, .slice (some ⟨gf, 0, none⟩) (st.b).length wk, .slice (some ⟨ge, 0, none⟩) (endsOf ns st.l).length ns.length, .slice sa (st.l).length sc] 96, RowP enc4 4 39 sa sc st.l] (fun _ => .tuple #[]) (fun _ : Option Addr × Nat => True) (fun z => [MapP fI p.gm p.pm, RowP encH 1 22 (some ⟨p.gb, 0, none⟩) ns.length p.hds, Box p.gp [.slice a ns.length ca, .slice b ls.length cb, .slice c cs.length cc, .map (some p.gm), .slice p.oa (placesO ns ls).length p.oc, .slice (some ⟨p.gb, 0, none⟩) ns.length ns.length] 90, RowP enc1 1 3 p.oa p.oc (placesO ns ls), RowsP enc1 1 3 p.hds, RowP enc1 1 3 (some ⟨gf, 0, none⟩) wk (compStep ns ls cs (orderS ns ls) st).b, RowP enc1 1 3 (some ⟨ge, 0, none⟩) ns.length (endsOf ns (compStep ns ls cs (orderS ns ls) st).l), Box gl [.pointer (some ⟨p.gp, 0, none⟩), .int .i64 (compStep ns ls cs (orderS ns ls) st).t, .slice (some ⟨gf, 0, none⟩) ((compStep ns ls cs (orderS ns ls) st).b).length wk, .slice (some ⟨ge, 0, none⟩) (endsOf ns (compStep ns ls cs (orderS ns ls) st).l).length ns.length, .slice z.1 ((compStep ns ls cs (orderS ns ls) st).l).length z.2] 96, RowP enc4 4 39 z.1 z.2 (compStep ns ls cs (orderS ns ls) st).l]) w) := by
  have hpo := prob_of hp
  have hvf := valid_facts hpo.1
  have hg := (valid_iff ns ls).1 hpo.1
  have hgo := (good_order ls hg.nd).1
  have hNN := ready_fIx hg hok (fun s hs => (hR.ends s hs).1)
  refine calls_body (n := 131) Try.func47 rfl rfl rfl h ?_
  refine cd_seq ?_
  refine Cd.know (fun w hs => (hs.rows len1 (by decide) (.s (.s (.s .z)))).real) (fun hro => ?_)
  refine Cd.know (fun w hs => (hs.rows len4 (by decide) (.s (.s (.s (.s (.s (.s (.s (.s .z))))))))).real) (fun hrs => ?_)
  refine cd_region ?_
  refine at_does (does_box rfl (.one rfl) (fun _ => (.cons (.cons (.cons (.cons (.cons (.cons (.cons (.cons (.cons .nil))))))))))) rfl (fun g1 => ?_)
  refine at_nil ?_
  refine ex_go ?_
  refine cd_seq ?_
  refine cd_draw' 10 follows ?_
  refine dr_take 0 rfl (by kernel_rfl) (.refl _) (by exact pv_load ld_93 rfl (box_cell (.s (.s (.s (.s (.s (.s (.s (.s (.s .z))))))))) .z)) rfl ?_
  refine dr_take 1 rfl (by kernel_rfl) (.refl _) (pv_nilCheck rfl) rfl ?_
  refine dr_take 2 rfl (by kernel_rfl) (.refl _) (pv_field0 fa_96_0 rfl (r := 0) rfl) rfl ?_
  refine dr_take 3 rfl (by kernel_rfl) (.refl _) (by exact pv_load ld_83 rfl (box_cell (.s (.s (.s (.s (.s (.s (.s .z))))))) .z)) rfl ?_
  refine dr_take 4 rfl (by kernel_rfl) (.refl _) (pv_nilCheck rfl) rfl ?_
  refine dr_take 5 rfl (by kernel_rfl) (.refl _) (pv_field0 fa_90_3 rfl (r := 4) rfl) rfl ?_
  refine dr_take 6 rfl (by kernel_rfl) (.refl _) (by exact pv_load ld_22 rfl (box_cell (.s (.s .z)) (.s (.s (.s (.s .z)))))) rfl ?_
  refine dr_take 7 rfl (by kernel_rfl) (.refl _) (by exact pv_load ld_93 rfl (box_cell (.s (.s (.s (.s (.s (.s (.s (.s (.s .z))))))))) .z)) rfl ?_
  refine dr_take 8 rfl (by kernel_rfl) (.refl _) (pv_makeFunc rfl rfl) rfl ?_
  refine dr_one 9 (by kernel_rfl) rfl ?_
  refine at_does (does_val (v := .int .i64 (fIx (okNext ls st.l st.t) (orderS ns ls) 0)) cal72 rfl rfl rfl (fun w hs => by have h9 := index_ints p.oa p.oc (placesO ns ls) (fun k : Int => readyK (endsOf ns st.l) st.t ((p.hds.getD k.toNat (none, 0, [])).2.2) k) 73 #[Value.pointer (some ⟨gl, 0, none⟩)] #[] w (hs.rows len1 (by decide) (.s (.s (.s .z)))) cal73 (fun k hk w' k' => ready_call hg (hs.box (i := 2) rfl) (hs.rows len1 (by decide) (.s (.s (.s .z)))) (hs.rows lenH (by decide) (.s .z)) (fun h hh => hs.rowsAt len1 (by decide) (.s (.s (.s (.s .z)))) hh) hok (hc.at' hs) (hs.box (i := 7) rfl) (hs.rows len1 (by decide) (.s (.s (.s (.s (.s (.s .z))))))) k' hk); rw [hNN] at h9; exact h9)) rfl (fun _ => ?_)
  refine at_nil (dr_next (fun _ => (.refl _)) ?_)
  refine dr_one 10 (by kernel_rfl) rfl ?_
  refine at_pure (pv_assign rfl) rfl ?_
  refine at_nil (dr_next (fun h => by cases h) ?_)
  refine dr_done (by kernel_rfl) ?_
  refine ex_go ?_
  refine cd_seq ?_
  refine cd_region ?_
  refine at_pure (by exact pv_load ld_93 rfl (box_cell (.s (.s (.s (.s (.s (.s (.s (.s (.s .z))))))))) .z)) rfl ?_
  refine at_pure (pv_nilCheck rfl) rfl ?_
  refine at_pure (pv_field0 fa_96_2 rfl (r := 2) rfl) rfl ?_
  refine at_pure (by exact pv_load ld_22 rfl (box_cell (.s (.s (.s (.s (.s (.s (.s .z))))))) (.s (.s .z)))) rfl ?_
  refine at_pure (pv_makeFunc rfl rfl) rfl ?_
  refine at_does (does_val (v := .int .i64 (freeI st.b st.t)) cal72 rfl rfl rfl (fun w hs => index_ints (some ⟨gf, 0, none⟩) wk st.b (fun z => decide (z ≤ st.t)) 74 #[] #[Value.pointer (some ⟨g1, 0, none⟩)] w (hs.rows len1 (by decide) (.s (.s (.s (.s (.s .z)))))) cal74 (fun k hk w' k' => free1_go p gl st.t (some ⟨gf, 0, none⟩) (some ⟨ge, 0, none⟩) sa st.b.length wk ns.length st.l.length sc (endsOf ns st.l) g1 k w' (block_keep (hs.box (i := 9) rfl) k') (block_keep (hs.box (i := 7) rfl) k') ((hs.rows len1 (by decide) (.s (.s (.s (.s (.s (.s .z))))))).keep k')))) rfl (fun _ => ?_)
  refine at_pure (pv_assign rfl) rfl ?_
  refine at_nil ?_
  refine ex_go ?_
  refine cd_seq ?_
  refine cd_seq ?_
  refine cd_region ?_
  refine at_pure (pv_move rfl) rfl ?_
  refine at_pure (pv_geq rfl rfl) rfl ?_
  refine at_pure (pv_move rfl) rfl ?_
  refine at_split 27 rfl (fun hb1 => ?_) (fun hb1 => ?_)
  · skip
    refine at_pure_g rfl rfl hb1 (pv_move rfl) rfl ?_
    refine at_pure_g rfl rfl hb1 (pv_geq rfl rfl) rfl ?_
    refine at_pure (pv_pick_t rfl hb1 rfl) rfl ?_
    refine at_nil ?_
    refine ex_go ?_
    refine cd_if rfl (fun hb2 => ?_) (fun hb2 => ?_)
    · skip
      refine cd_seq ?_
      have hnn : 0 ≤ (fIx (okNext ls st.l st.t) (orderS ns ls) 0) := by simpa using hb1
      have hff : 0 ≤ (freeI st.b st.t) := by simpa using hb2
      obtain ⟨x, hx1, hx2, hx3, hx4⟩ := ((next_of (ns := ns) (ls := ls) (l := st.l) (t := st.t) (ord_pos hg)).resolve_left (fun e => by omega)).2
      have hxi : x ∈ ids ns := hgo.sub x (List.mem_of_getElem? hx1)
      have hpl := place_in hxi
      obtain ⟨yy, hyy, rfl⟩ := place_get hpl.1
      have hzo : (placesO ns ls)[(fIx (okNext ls st.l st.t) (orderS ns ls) 0).toNat]? = some (placeI ns yy.1) := by unfold placesO; rw [List.getElem?_map, hx1]; rfl
      have hplen : (placesO ns ls).length = (orderS ns ls).length := List.length_map ..
      have hnl := (List.getElem?_eq_some_iff.1 hx1).1
      have hat := at1_get (xs := cs) (k := (placeI ns yy.1).toNat) (by omega)
      have hab := at1_bound (k := (placeI ns yy.1).toNat) hpo.2.2.2.2 (by omega)
      have htm := hR.time
      have hel := endsOf_len ns st.l
      have hae := at1_get (xs := endsOf ns st.l) (k := (placeI ns yy.1).toNat) (by omega)
      have hfr := fIx_range (p := fun z : Int => decide (z ≤ st.t)) st.b 0
      have hfl : (freeI st.b st.t) < st.b.length := by unfold freeI at hff ⊢; omega
      have haf := at1_get (xs := st.b) (k := (freeI st.b st.t).toNat) (by omega)
      have hsx : slotI st.l yy.1 < 0 := by unfold okNext at hx4; simp only [Bool.and_eq_true, decide_eq_true_eq] at hx4; exact hx4.1
      have hes := step_slot (ns := ns) (cs := cs) (show 1 ≤ nextI ls (orderS ns ls) st.l st.t by omega) hff
      rw [hx2] at hes
      refine cd_region ?_
      refine at_pure (by exact pv_load ld_93 rfl (box_cell (.s (.s (.s (.s (.s (.s (.s (.s (.s .z))))))))) .z)) rfl ?_
      refine at_pure (pv_nilCheck rfl) rfl ?_
      refine at_pure (pv_field0 fa_96_0 rfl (r := 0) rfl) rfl ?_
      refine at_pure (by exact pv_load ld_83 rfl (box_cell (.s (.s (.s (.s (.s (.s (.s .z))))))) .z)) rfl ?_
      refine at_pure (pv_nilCheck rfl) rfl ?_
      refine at_pure (pv_field0 fa_90_3 rfl (r := 4) rfl) rfl ?_
      refine at_pure (by exact pv_load ld_22 rfl (box_cell (.s (.s .z)) (.s (.s (.s (.s .z)))))) rfl ?_
      refine at_pure (pv_move rfl) rfl ?_
      refine at_pure (pv_ix Try.underlying22 cz_3 rfl rfl (by first | omega | (simp only [decide_eq_true_eq, decide_eq_false_iff_not] at *; omega)) hro (k := (fIx (okNext ls st.l st.t) (orderS ns ls) 0).toNat) (by omega)) rfl ?_
      refine at_pure (pv_elem0 ld_3 rfl (RowP.get len1 (by decide) (.s (.s (.s .z))) hzo .z)) rfl ?_
      refine at_pure (pv_assign rfl) rfl ?_
      refine at_nil ?_
      refine ex_go ?_
      refine cd_seq ?_
      refine cd_draw' 15 follows ?_
      refine dr_take 0 rfl (by kernel_rfl) (.refl _) (by exact pv_load ld_93 rfl (box_cell (.s (.s (.s (.s (.s (.s (.s (.s (.s .z))))))))) .z)) rfl ?_
      refine dr_take 1 rfl (by kernel_rfl) (.refl _) (pv_nilCheck rfl) rfl ?_
      refine dr_take 2 rfl (by kernel_rfl) (.refl _) (pv_field0 fa_96_1 rfl (r := 1) rfl) rfl ?_
      refine dr_take 3 rfl (by kernel_rfl) (.refl _) (by exact pv_load ld_3 rfl (box_cell (.s (.s (.s (.s (.s (.s (.s .z))))))) (.s .z))) rfl ?_
      refine dr_take 4 rfl (by kernel_rfl) (.refl _) (by exact pv_load ld_93 rfl (box_cell (.s (.s (.s (.s (.s (.s (.s (.s (.s .z))))))))) .z)) rfl ?_
      refine dr_take 5 rfl (by kernel_rfl) (.refl _) (pv_nilCheck rfl) rfl ?_
      refine dr_take 6 rfl (by kernel_rfl) (.refl _) (pv_field0 fa_96_0 rfl (r := 0) rfl) rfl ?_
      refine dr_take 7 rfl (by kernel_rfl) (.refl _) (by exact pv_load ld_83 rfl (box_cell (.s (.s (.s (.s (.s (.s (.s .z))))))) .z)) rfl ?_
      refine dr_take 8 rfl (by kernel_rfl) (.refl _) (pv_nilCheck rfl) rfl ?_
      refine dr_take 9 rfl (by kernel_rfl) (.refl _) (pv_field0 fa_90_1 rfl (r := 2) rfl) rfl ?_
      refine dr_take 10 rfl (by kernel_rfl) (.refl _) (by exact pv_load ld_22 rfl (box_cell (.s (.s .z)) (.s (.s .z)))) rfl ?_
      refine dr_take 11 rfl (by kernel_rfl) (.refl _) (pv_move rfl) rfl ?_
      refine dr_take 12 rfl (by kernel_rfl) (.refl _) (pv_ix Try.underlying22 cz_3 rfl rfl (by first | omega | (simp only [decide_eq_true_eq, decide_eq_false_iff_not] at *; omega)) hc.real (k := (placeI ns yy.1).toNat) (by omega)) rfl ?_
      refine dr_take 13 rfl (by kernel_rfl) (.refl _) (pv_elem0 ld_3 rfl (hc.get hat .z)) rfl ?_
      refine dr_take 14 rfl (by kernel_rfl) (.refl _) (by first | exact pv_add_n rfl rfl (by unfold In64; omega) | exact pv_add rfl rfl) rfl ?_
      refine dr_one 15 (by kernel_rfl) rfl ?_
      refine at_pure (pv_assign rfl) rfl ?_
      refine at_nil (dr_next (fun h => by cases h) ?_)
      refine dr_done (by kernel_rfl) ?_
      refine ex_go ?_
      refine cd_seq ?_
      refine cd_draw 28 [Box p.gp [.slice a ns.length ca, .slice b ls.length cb, .slice c cs.length cc, .map (some p.gm), .slice p.oa (placesO ns ls).length p.oc, .slice (some ⟨p.gb, 0, none⟩) ns.length ns.length] 90, Box gl [.pointer (some ⟨p.gp, 0, none⟩), .int .i64 st.t, .slice (some ⟨gf, 0, none⟩) (st.b).length wk, .slice (some ⟨ge, 0, none⟩) (endsOf ns st.l).length ns.length, .slice sa (st.l).length sc] 96, Box g1 [Value.pointer (some ⟨gl, 0, none⟩)] 93] follows ?_
      refine dr_take 0 rfl (by kernel_rfl) (by repeat first | exact sLn _ | apply sLc | apply sLd) (by exact pv_load ld_93 rfl (box_cell (.s (.s .z)) .z)) rfl ?_
      refine dr_take 1 rfl (by kernel_rfl) (by repeat first | exact sLn _ | apply sLc | apply sLd) (by exact pv_load ld_93 rfl (box_cell (.s (.s .z)) .z)) rfl ?_
      refine dr_take 2 rfl (by kernel_rfl) (by repeat first | exact sLn _ | apply sLc | apply sLd) (pv_nilCheck rfl) rfl ?_
      refine dr_take 3 rfl (by kernel_rfl) (by repeat first | exact sLn _ | apply sLc | apply sLd) (pv_field0 fa_96_4 rfl (r := 4) rfl) rfl ?_
      refine dr_take 4 rfl (by kernel_rfl) (by repeat first | exact sLn _ | apply sLc | apply sLd) (by exact pv_load ld_23 rfl (box_cell (.s .z) (.s (.s (.s (.s .z)))))) rfl ?_
      refine dr_take 5 rfl (by kernel_rfl) (by repeat first | exact sLn _ | apply sLc | apply sLd) (by exact pv_load ld_93 rfl (box_cell (.s (.s .z)) .z)) rfl ?_
      refine dr_take 6 rfl (by kernel_rfl) (by repeat first | exact sLn _ | apply sLc | apply sLd) (pv_nilCheck rfl) rfl ?_
      refine dr_take 7 rfl (by kernel_rfl) (by repeat first | exact sLn _ | apply sLc | apply sLd) (pv_field0 fa_96_0 rfl (r := 0) rfl) rfl ?_
      refine dr_take 8 rfl (by kernel_rfl) (by repeat first | exact sLn _ | apply sLc | apply sLd) (by exact pv_load ld_83 rfl (box_cell (.s .z) .z)) rfl ?_
      refine dr_take 9 rfl (by kernel_rfl) (by repeat first | exact sLn _ | apply sLc | apply sLd) (pv_nilCheck rfl) rfl ?_
      refine dr_take 10 rfl (by kernel_rfl) (by repeat first | exact sLn _ | apply sLc | apply sLd) (pv_field0 fa_90_0 rfl (r := 0) rfl) rfl ?_
      refine dr_take 11 rfl (by kernel_rfl) (by repeat first | exact sLn _ | apply sLc | apply sLd) (pv_field0 fa_28_0 rfl (r := 0) rfl) rfl ?_
      refine dr_take 12 rfl (by kernel_rfl) (by repeat first | exact sLn _ | apply sLc | apply sLd) (by exact pv_load ld_25 rfl (box_cell .z .z)) rfl ?_
      refine dr_take 13 rfl (by kernel_rfl) (by repeat first | exact sLn _ | apply sLc | apply sLd) (pv_move rfl) rfl ?_
      refine dr_take 14 rfl (by kernel_rfl) (by repeat first | exact sLn _ | apply sLc | apply sLd) (pv_ix Try.underlying25 cz_70 rfl rfl (by first | omega | (simp only [decide_eq_true_eq, decide_eq_false_iff_not] at *; omega)) hn.real (k := (placeI ns yy.1).toNat) (by omega)) rfl ?_
      refine dr_take 15 rfl (by kernel_rfl) (by repeat first | exact sLn _ | apply sLc | apply sLd) (pv_fieldAddr fa_70_0 rfl) rfl ?_
      refine dr_take 16 rfl (by kernel_rfl) (by repeat first | exact sLn _ | apply sLc | apply sLd) (pv_elem ld_3 rfl (hn.get hyy .z)) rfl ?_
      refine dr_take 17 rfl (by kernel_rfl) (by repeat first | exact sLn _ | apply sLc | apply sLd) (pv_move rfl) rfl ?_
      refine dr_take 18 rfl (by kernel_rfl) (by repeat first | exact sLn _ | apply sLc | apply sLd) (by exact pv_load ld_93 rfl (box_cell (.s (.s .z)) .z)) rfl ?_
      refine dr_take 19 rfl (by kernel_rfl) (by repeat first | exact sLn _ | apply sLc | apply sLd) (pv_nilCheck rfl) rfl ?_
      refine dr_take 20 rfl (by kernel_rfl) (by repeat first | exact sLn _ | apply sLc | apply sLd) (pv_field0 fa_96_1 rfl (r := 1) rfl) rfl ?_
      refine dr_take 21 rfl (by kernel_rfl) (by repeat first | exact sLn _ | apply sLc | apply sLd) (by exact pv_load ld_3 rfl (box_cell (.s .z) (.s .z))) rfl ?_
      refine dr_take 22 rfl (by kernel_rfl) (by repeat first | exact sLn _ | apply sLc | apply sLd) (pv_move rfl) rfl ?_
      refine dr_take 23 rfl (by kernel_rfl) (by repeat first | exact sLn _ | apply sLc | apply sLd) (pv_build rfl (bu_39_0_1_2_3 _ _ _ _)) rfl ?_
      refine dr_one 24 (by kernel_rfl) rfl ?_
      refine at_does (does_list (by rfl) (by exact (bs_23_1_0 _ _ _ _)) (by exact (fun _ => (.cons (.cons (.cons (.cons (.cons (.cons (.cons (.cons (.cons (.cons .nil))))))))))))) rfl (fun g2 => ?_)
      refine at_nil (dr_next (fun _ => (by repeat first | exact sLn _ | apply sLc | apply sLd)) ?_)
      refine dr_one 25 (by kernel_rfl) rfl ?_
      refine at_hands (does_app (ys := [(yy.1, (freeI st.b st.t), st.t, (st.t + at1 cs (placeI ns yy.1).toNat))]) ⟨len4, by decide, one4⟩ Try.underlying23 ap_39 rfl rfl rfl (.s (.s (.s (.s (.s (.s (.s (.s .z)))))))) (fun w hs => hs.box1 (enc := enc4) (z := (yy.1, (freeI st.b st.t), st.t, (st.t + at1 cs (placeI ns yy.1).toNat))) (.s (.s (.s (.s (.s (.s (.s (.s (.s (.s .z))))))))))) (by simp only [List.length_singleton]; omega) (by simp) (fun _ _ => (.s (.s (.s (.s (.s (.s (.s (.s .z)))))))))) rfl (fun a9 c9 hr3 hc3 => ?_)
      refine at_nil (dr_next (fun _ => (by repeat first | exact sLn _ | apply sLc | apply sLd)) ?_)
      refine dr_take 26 rfl (by kernel_rfl) (by repeat first | exact sLn _ | apply sLc | apply sLd) (pv_nilCheck rfl) rfl ?_
      refine dr_take 27 rfl (by kernel_rfl) (by repeat first | exact sLn _ | apply sLc | apply sLd) (pv_field0 fa_96_4 rfl (r := 4) rfl) rfl ?_
      refine dr_one 28 (by kernel_rfl) rfl ?_
      refine at_turns (by exact turns_store sz_23 rfl rfl (.one rfl) rfl rfl (.s (.s (.s (.s (.s (.s (.s .z))))))) (.skip (.skip (.skip (.skip (.rep .done))))) (.s (.s (.s (.s (.s (.s (.s .z)))))))) ?_
      refine at_nil (dr_next (fun h => by cases h) ?_)
      refine dr_done (by kernel_rfl) ?_
      refine ex_go ?_
      refine cd_seq ?_
      refine cd_draw 16 [Box p.gp [.slice a ns.length ca, .slice b ls.length cb, .slice c cs.length cc, .map (some p.gm), .slice p.oa (placesO ns ls).length p.oc, .slice (some ⟨p.gb, 0, none⟩) ns.length ns.length] 90, Box gl [.pointer (some ⟨p.gp, 0, none⟩), .int .i64 st.t, .slice (some ⟨gf, 0, none⟩) (st.b).length wk, .slice (some ⟨ge, 0, none⟩) (endsOf ns st.l).length ns.length, .slice a9 (st.l ++ [(yy.1, (freeI st.b st.t), st.t, (st.t + at1 cs (placeI ns yy.1).toNat))]).length c9] 96, Box g1 [Value.pointer (some ⟨gl, 0, none⟩)] 93] follows ?_
      refine dr_take 0 rfl (by kernel_rfl) (by repeat first | exact sLn _ | apply sLc | apply sLd) (by exact pv_load ld_93 rfl (box_cell (.s (.s .z)) .z)) rfl ?_
      refine dr_take 1 rfl (by kernel_rfl) (by repeat first | exact sLn _ | apply sLc | apply sLd) (pv_nilCheck rfl) rfl ?_
      refine dr_take 2 rfl (by kernel_rfl) (by repeat first | exact sLn _ | apply sLc | apply sLd) (pv_field0 fa_96_3 rfl (r := 3) rfl) rfl ?_
      refine dr_take 3 rfl (by kernel_rfl) (by repeat first | exact sLn _ | apply sLc | apply sLd) (by exact pv_load ld_22 rfl (box_cell (.s .z) (.s (.s (.s .z))))) rfl ?_
      refine dr_take 4 rfl (by kernel_rfl) (by repeat first | exact sLn _ | apply sLc | apply sLd) (pv_move rfl) rfl ?_
      refine dr_take 5 rfl (by kernel_rfl) (by repeat first | exact sLn _ | apply sLc | apply sLd) (by exact pv_load ld_93 rfl (box_cell (.s (.s .z)) .z)) rfl ?_
      refine dr_take 6 rfl (by kernel_rfl) (by repeat first | exact sLn _ | apply sLc | apply sLd) (pv_nilCheck rfl) rfl ?_
      refine dr_take 7 rfl (by kernel_rfl) (by repeat first | exact sLn _ | apply sLc | apply sLd) (pv_field0 fa_96_2 rfl (r := 2) rfl) rfl ?_
      refine dr_take 8 rfl (by kernel_rfl) (by repeat first | exact sLn _ | apply sLc | apply sLd) (by exact pv_load ld_22 rfl (box_cell (.s .z) (.s (.s .z)))) rfl ?_
      refine dr_take 9 rfl (by kernel_rfl) (by repeat first | exact sLn _ | apply sLc | apply sLd) (pv_move rfl) rfl ?_
      refine dr_take 10 rfl (by kernel_rfl) (by repeat first | exact sLn _ | apply sLc | apply sLd) (pv_move rfl) rfl ?_
      refine dr_take 11 rfl (by kernel_rfl) (by repeat first | exact sLn _ | apply sLc | apply sLd) (pv_move rfl) rfl ?_
      refine dr_take 12 rfl (by kernel_rfl) (by repeat first | exact sLn _ | apply sLc | apply sLd) (pv_ix Try.underlying22 cz_3 rfl rfl (by first | omega | (simp only [decide_eq_true_eq, decide_eq_false_iff_not] at *; omega)) (.inr rfl) (k := (placeI ns yy.1).toNat) (by omega)) rfl ?_
      refine dr_one 13 (by kernel_rfl) rfl ?_
      refine at_turns (by exact turns_put (z' := (st.t + at1 cs (placeI ns yy.1).toNat)) (k := (placeI ns yy.1).toNat) (q := 0) len1 sz_3 rfl rfl rfl (.one rfl) rfl rfl (.s (.s (.s (.s (.s (.s .z)))))) hae rfl (Nat.le_of_ble_eq_true rfl) (.s (.s (.s (.s (.s (.s .z))))))) ?_
      refine at_nil (dr_next (fun _ => (by repeat first | exact sLn _ | apply sLc | apply sLd)) ?_)
      refine dr_take 14 rfl (by kernel_rfl) (by repeat first | exact sLn _ | apply sLc | apply sLd) (pv_ix Try.underlying22 cz_3 rfl rfl (by first | omega | (simp only [decide_eq_true_eq, decide_eq_false_iff_not] at *; omega)) (.inr rfl) (k := (freeI st.b st.t).toNat) (by omega)) rfl ?_
      refine dr_one 15 (by kernel_rfl) rfl ?_
      refine at_turns (by exact turns_put (z' := (st.t + at1 cs (placeI ns yy.1).toNat)) (k := (freeI st.b st.t).toNat) (q := 0) len1 sz_3 rfl rfl rfl (.one rfl) rfl rfl (.s (.s (.s (.s (.s .z))))) haf rfl (Nat.le_of_ble_eq_true rfl) (.s (.s (.s (.s (.s .z)))))) ?_
      refine at_nil (dr_next (fun _ => (by repeat first | exact sLn _ | apply sLc | apply sLd)) ?_)
      refine dr_done (by kernel_rfl) ?_
      refine ex_go ?_
      refine cd_ret ?_
      refine ex_then_ret ?_
      exact end_ret0 rfl (fun w hs => by first | exact Uses.mk (a9, c9) trivial rfl hs (by rw [hes]; dsimp only; rw [endsOf_snoc (s := (yy.1, (freeI st.b st.t), st.t, (st.t + at1 cs (placeI ns yy.1).toNat))) hg.nd hpl.1 hsx]; simp only [List.length_set]; repeat first | exact sLn _ | apply sLc | apply sLd) | (have hla : laterS st.l st.t = o := (fold_end hq (by simp at hlt; omega)); exact Uses.mk (sa, sc) trivial rfl hs (by rw [het, hla]; repeat first | exact sLn _ | apply sLc | apply sLd)))
    · skip
      refine cd_skip ?_
      refine ex_go ?_
      refine cd_seq ?_
      have hor : nextI ls (orderS ns ls) st.l st.t = 0 ∨ (freeI st.b st.t) < 0 := by
        rcases next_of (ns := ns) (ls := ls) (l := st.l) (t := st.t) (ord_pos hg) with h9 | h9
        · exact .inl h9.2
        · simp only [decide_eq_true_eq, decide_eq_false_iff_not] at *; omega
      have het := step_time (ns := ns) (cs := cs) hor
      refine cd_region ?_
      refine at_pure (pv_assign rfl) rfl ?_
      refine at_nil ?_
      refine ex_go ?_
      refine cd_seq ?_
      refine cd_seq ?_
      refine cd_region ?_
      refine at_pure (by exact pv_load ld_93 rfl (box_cell (.s (.s (.s (.s (.s (.s (.s (.s (.s .z))))))))) .z)) rfl ?_
      refine at_pure (pv_nilCheck rfl) rfl ?_
      refine at_pure (pv_field0 fa_96_4 rfl (r := 4) rfl) rfl ?_
      refine at_pure (by exact pv_load ld_23 rfl (box_cell (.s (.s (.s (.s (.s (.s (.s .z))))))) (.s (.s (.s (.s .z)))))) rfl ?_
      refine at_pure (pv_len Try.underlying23 rfl) rfl ?_
      refine at_pure (pv_move rfl) rfl ?_
      refine at_nil ?_
      refine ex_go ?_
      refine cd_block ?_
      refine cd_loop (σ := Nat × Int) (fun s => [(1, Value.pointer (some ⟨g1, 0, none⟩)), (6, .int .i64 s.2), (101, .slice sa st.l.length sc), (102, .int .i64 st.l.length), (103, .int .i64 (s.1 : Int))]) (fun s => [MapP fI p.gm p.pm, RowP encH 1 22 (some ⟨p.gb, 0, none⟩) ns.length p.hds, Box p.gp [.slice a ns.length ca, .slice b ls.length cb, .slice c cs.length cc, .map (some p.gm), .slice p.oa (placesO ns ls).length p.oc, .slice (some ⟨p.gb, 0, none⟩) ns.length ns.length] 90, RowP enc1 1 3 p.oa p.oc (placesO ns ls), RowsP enc1 1 3 p.hds, RowP enc1 1 3 (some ⟨gf, 0, none⟩) wk st.b, RowP enc1 1 3 (some ⟨ge, 0, none⟩) ns.length (endsOf ns st.l), Box gl [.pointer (some ⟨p.gp, 0, none⟩), .int .i64 st.t, .slice (some ⟨gf, 0, none⟩) (st.b).length wk, .slice (some ⟨ge, 0, none⟩) (endsOf ns st.l).length ns.length, .slice sa (st.l).length sc] 96, RowP enc4 4 39 sa sc st.l, Box g1 [Value.pointer (some ⟨gl, 0, none⟩)] 93]) (fun s => s.1 ≤ st.l.length ∧ st.l.foldl (laterF st.t) (-1) = (st.l.drop s.1).foldl (laterF st.t) s.2) (fun s => st.l.length - s.1) (0, -1) ⟨Nat.zero_le _, rfl⟩ ⟨rfl, rfl, rfl, rfl, rfl, trivial⟩ (by repeat first | exact sLn _ | apply sLc | apply sLd) ?_
      rintro ⟨k, o⟩ ⟨hk, hq⟩
      dsimp only at hk hq ⊢
      refine cd_seq ?_
      refine cd_region ?_
      refine at_pure (pv_lss rfl rfl) rfl ?_
      refine at_nil ?_
      refine ex_go ?_
      refine cd_seq ?_
      refine cd_if rfl (fun hlt => ?_) (fun hlt => ?_)
      · skip
        refine cd_skip ?_
        refine ex_go ?_
        refine cd_seq ?_
        refine cd_block ?_
        refine cd_seq ?_
        have hkl : k < st.l.length := by simpa using hlt
        obtain ⟨z, hz⟩ := get_of hkl
        refine cd_region ?_
        refine at_pure (pv_ix Try.underlying23 cz_39 rfl rfl (by first | omega | (simp only [decide_eq_true_eq, decide_eq_false_iff_not] at *; omega)) hrs (k := k) (by omega)) rfl ?_
        refine at_pure (pv_elems ag_39 rfl (RowP.gets len4 (by decide) (.s (.s (.s (.s (.s (.s (.s (.s .z)))))))) hz) rfl) rfl ?_
        refine at_does (does_alloc ze_39 .agg (fun _ => (.cons (.cons (.cons (.cons (.cons (.cons (.cons (.cons (.cons (.cons .nil)))))))))))) rfl (fun g4 => ?_)
        refine at_turns (by exact turns_store sz_39 rfl rfl .agg rfl rfl (.s (.s (.s (.s (.s (.s (.s (.s (.s (.s .z)))))))))) (.rep (.rep (.rep (.rep .done)))) (.s (.s (.s (.s (.s (.s (.s (.s (.s (.s .z))))))))))) ?_
        refine at_nil ?_
        refine ex_go ?_
        refine cd_seq ?_
        refine cd_draw' 17 follows ?_
        refine dr_take 0 rfl (by kernel_rfl) (.refl _) (pv_field0 fa_39_3 rfl (r := 3) rfl) rfl ?_
        refine dr_take 1 rfl (by kernel_rfl) (.refl _) (by exact pv_load ld_3 rfl (box_cell (.s (.s (.s (.s (.s (.s (.s (.s (.s (.s .z)))))))))) (.s (.s (.s .z))))) rfl ?_
        refine dr_take 2 rfl (by kernel_rfl) (.refl _) (by exact pv_load ld_93 rfl (box_cell (.s (.s (.s (.s (.s (.s (.s (.s (.s .z))))))))) .z)) rfl ?_
        refine dr_take 3 rfl (by kernel_rfl) (.refl _) (pv_nilCheck rfl) rfl ?_
        refine dr_take 4 rfl (by kernel_rfl) (.refl _) (pv_field0 fa_96_1 rfl (r := 1) rfl) rfl ?_
        refine dr_take 5 rfl (by kernel_rfl) (.refl _) (by exact pv_load ld_3 rfl (box_cell (.s (.s (.s (.s (.s (.s (.s .z))))))) (.s .z))) rfl ?_
        refine dr_take 6 rfl (by kernel_rfl) (.refl _) (pv_gtr rfl rfl) rfl ?_
        refine dr_take 7 rfl (by kernel_rfl) (.refl _) (pv_move rfl) rfl ?_
        refine dr_split 114 rfl (fun hb4 => ?_) (fun hb4 => ?_)
        · skip
          refine dr_take_g 8 rfl rfl rfl hb4 (by kernel_rfl) (.refl _) (pv_move rfl) rfl ?_
          refine dr_take_g 9 rfl rfl rfl hb4 (by kernel_rfl) (.refl _) (pv_lss rfl rfl) rfl ?_
          refine dr_take_g 10 rfl rfl rfl hb4 (by kernel_rfl) (.refl _) (pv_move rfl) rfl ?_
          refine dr_split 117 rfl (fun hb5 => ?_) (fun hb5 => ?_)
          · skip
            refine dr_skip 11 rfl rfl rfl hb5 (by kernel_rfl) (.refl _) rfl ?_
            refine dr_skip 12 rfl rfl rfl hb5 (by kernel_rfl) (.refl _) rfl ?_
            refine dr_skip 13 rfl rfl rfl hb5 (by kernel_rfl) (.refl _) rfl ?_
            refine dr_skip 14 rfl rfl rfl hb5 (by kernel_rfl) (.refl _) rfl ?_
            refine dr_take_g 15 rfl rfl rfl hb4 (by kernel_rfl) (.refl _) (pv_pick_t rfl hb5 rfl) rfl ?_
            refine dr_take 16 rfl (by kernel_rfl) (.refl _) (pv_pick_t rfl hb4 rfl) rfl ?_
            refine dr_done (by kernel_rfl) ?_
            refine ex_go ?_
            refine cd_then rfl rfl ?_
            refine cd_region ?_
            refine at_pure (pv_field0 fa_39_3 rfl (r := 3) rfl) rfl ?_
            refine at_pure (by exact pv_load ld_3 rfl (box_cell (.s (.s (.s (.s (.s (.s (.s (.s (.s (.s .z)))))))))) (.s (.s (.s .z))))) rfl ?_
            refine at_pure (pv_assign rfl) rfl ?_
            refine at_nil ?_
            refine ex_in_normal (ex_go ?_)
            refine cd_region ?_
            refine at_pure (by first | exact pv_add_n rfl rfl (by unfold In64; omega) | exact pv_add rfl rfl) rfl ?_
            refine at_pure (pv_move rfl) rfl ?_
            refine at_nil ?_
            exact ex_meet (k + 1, _) ⟨⟨by dsimp only; omega, fold_step hq hz (by simp only [laterF, Bool.and_true, Bool.true_and, Bool.and_false, Bool.false_and, Bool.or_true, Bool.true_or, Bool.or_false, Bool.false_or, cond_true, cond_false, *])⟩, by dsimp only; omega⟩ ⟨rfl, rfl, rfl, rfl, rfl, trivial⟩ (by repeat first | exact sLn _ | apply sLc | apply sLd)
          · skip
            refine dr_take_g 11 rfl rfl rfl hb5 (by kernel_rfl) (.refl _) (pv_field0 fa_39_3 rfl (r := 3) rfl) rfl ?_
            refine dr_take_g 12 rfl rfl rfl hb5 (by kernel_rfl) (.refl _) (by exact pv_load ld_3 rfl (box_cell (.s (.s (.s (.s (.s (.s (.s (.s (.s (.s .z)))))))))) (.s (.s (.s .z))))) rfl ?_
            refine dr_take_g 13 rfl rfl rfl hb5 (by kernel_rfl) (.refl _) (pv_move rfl) rfl ?_
            refine dr_take_g 14 rfl rfl rfl hb5 (by kernel_rfl) (.refl _) (pv_lss rfl rfl) rfl ?_
            refine dr_take_g 15 rfl rfl rfl hb4 (by kernel_rfl) (.refl _) (pv_pick_f rfl hb5 rfl) rfl ?_
            refine dr_take 16 rfl (by kernel_rfl) (.refl _) (pv_pick_t rfl hb4 rfl) rfl ?_
            refine dr_done (by kernel_rfl) ?_
            refine ex_go ?_
            refine cd_if rfl (fun hb6 => ?_) (fun hb6 => ?_)
            · skip
              refine cd_region ?_
              refine at_pure (pv_field0 fa_39_3 rfl (r := 3) rfl) rfl ?_
              refine at_pure (by exact pv_load ld_3 rfl (box_cell (.s (.s (.s (.s (.s (.s (.s (.s (.s (.s .z)))))))))) (.s (.s (.s .z))))) rfl ?_
              refine at_pure (pv_assign rfl) rfl ?_
              refine at_nil ?_
              refine ex_in_normal (ex_go ?_)
              refine cd_region ?_
              refine at_pure (by first | exact pv_add_n rfl rfl (by unfold In64; omega) | exact pv_add rfl rfl) rfl ?_
              refine at_pure (pv_move rfl) rfl ?_
              refine at_nil ?_
              exact ex_meet (k + 1, _) ⟨⟨by dsimp only; omega, fold_step hq hz (by simp only [laterF, Bool.and_true, Bool.true_and, Bool.and_false, Bool.false_and, Bool.or_true, Bool.true_or, Bool.or_false, Bool.false_or, cond_true, cond_false, *])⟩, by dsimp only; omega⟩ ⟨rfl, rfl, rfl, rfl, rfl, trivial⟩ (by repeat first | exact sLn _ | apply sLc | apply sLd)
            · skip
              refine cd_skip ?_
              refine ex_in_normal (ex_go ?_)
              refine cd_region ?_
              refine at_pure (by first | exact pv_add_n rfl rfl (by unfold In64; omega) | exact pv_add rfl rfl) rfl ?_
              refine at_pure (pv_move rfl) rfl ?_
              refine at_nil ?_
              exact ex_meet (k + 1, _) ⟨⟨by dsimp only; omega, fold_step hq hz (by simp only [laterF, Bool.and_true, Bool.true_and, Bool.and_false, Bool.false_and, Bool.or_true, Bool.true_or, Bool.or_false, Bool.false_or, cond_true, cond_false, *])⟩, by dsimp only; omega⟩ ⟨rfl, rfl, rfl, rfl, rfl, trivial⟩ (by repeat first | exact sLn _ | apply sLc | apply sLd)
        · skip
          refine dr_skip 8 rfl rfl rfl hb4 (by kernel_rfl) (.refl _) rfl ?_
          refine dr_skip 9 rfl rfl rfl hb4 (by kernel_rfl) (.refl _) rfl ?_
          refine dr_skip 10 rfl rfl rfl hb4 (by kernel_rfl) (.refl _) rfl ?_
          refine dr_skip_u 11 rfl rfl rfl (by kernel_rfl) (.refl _) rfl ?_
          refine dr_skip_u 12 rfl rfl rfl (by kernel_rfl) (.refl _) rfl ?_
          refine dr_skip_u 13 rfl rfl rfl (by kernel_rfl) (.refl _) rfl ?_
          refine dr_skip_u 14 rfl rfl rfl (by kernel_rfl) (.refl _) rfl ?_
          refine dr_skip 15 rfl rfl rfl hb4 (by kernel_rfl) (.refl _) rfl ?_
          refine dr_take 16 rfl (by kernel_rfl) (.refl _) (pv_pick_f rfl hb4 rfl) rfl ?_
          refine dr_done (by kernel_rfl) ?_
          refine ex_go ?_
          refine cd_else rfl rfl ?_
          refine cd_skip ?_
          refine ex_in_normal (ex_go ?_)
          refine cd_region ?_
          refine at_pure (by first | exact pv_add_n rfl rfl (by unfold In64; omega) | exact pv_add rfl rfl) rfl ?_
          refine at_pure (pv_move rfl) rfl ?_
          refine at_nil ?_
          exact ex_meet (k + 1, _) ⟨⟨by dsimp only; omega, fold_step hq hz (by simp only [laterF, Bool.and_true, Bool.true_and, Bool.and_false, Bool.false_and, Bool.or_true, Bool.true_or, Bool.or_false, Bool.false_or, cond_true, cond_false, *])⟩, by dsimp only; omega⟩ ⟨rfl, rfl, rfl, rfl, rfl, trivial⟩ (by repeat first | exact sLn _ | apply sLc | apply sLd)
      · skip
        refine cd_exit ?_
        refine ex_then_exit (ex_then_exit (ex_in (ex_go ?_)))
        refine cd_region ?_
        refine at_pure (by exact pv_load ld_93 rfl (box_cell (.s (.s (.s (.s (.s (.s (.s (.s (.s .z))))))))) .z)) rfl ?_
        refine at_pure (pv_move rfl) rfl ?_
        refine at_pure (pv_nilCheck rfl) rfl ?_
        refine at_pure (pv_field0 fa_96_1 rfl (r := 1) rfl) rfl ?_
        refine at_turns (by exact turns_store sz_3 rfl rfl (.one rfl) rfl rfl (.s (.s (.s (.s (.s (.s (.s .z))))))) (.skip (.rep .done)) (.s (.s (.s (.s (.s (.s (.s .z)))))))) ?_
        refine at_nil ?_
        exact end_normal0 rfl (fun w hs => by first | exact Uses.mk (a9, c9) trivial rfl hs (by rw [hes]; dsimp only; rw [endsOf_snoc (s := (yy.1, (freeI st.b st.t), st.t, (st.t + at1 cs (placeI ns yy.1).toNat))) hg.nd hpl.1 hsx]; simp only [List.length_set]; repeat first | exact sLn _ | apply sLc | apply sLd) | (have hla : laterS st.l st.t = o := (fold_end hq (by simp at hlt; omega)); exact Uses.mk (sa, sc) trivial rfl hs (by rw [het, hla]; repeat first | exact sLn _ | apply sLc | apply sLd)))
  · skip
    refine at_skip rfl rfl hb1 rfl ?_
    refine at_skip rfl rfl hb1 rfl ?_
    refine at_pure (pv_pick_f rfl hb1 rfl) rfl ?_
    refine at_nil ?_
    refine ex_go ?_
    refine cd_else rfl rfl ?_
    refine cd_skip ?_
    refine ex_go ?_
    refine cd_seq ?_
    have hor : nextI ls (orderS ns ls) st.l st.t = 0 ∨ (freeI st.b st.t) < 0 := by
      rcases next_of (ns := ns) (ls := ls) (l := st.l) (t := st.t) (ord_pos hg) with h9 | h9
      · exact .inl h9.2
      · simp only [decide_eq_true_eq, decide_eq_false_iff_not] at *; omega
    have het := step_time (ns := ns) (cs := cs) hor
    refine cd_region ?_
    refine at_pure (pv_assign rfl) rfl ?_
    refine at_nil ?_
    refine ex_go ?_
    refine cd_seq ?_
    refine cd_seq ?_
    refine cd_region ?_
    refine at_pure (by exact pv_load ld_93 rfl (box_cell (.s (.s (.s (.s (.s (.s (.s (.s (.s .z))))))))) .z)) rfl ?_
    refine at_pure (pv_nilCheck rfl) rfl ?_
    refine at_pure (pv_field0 fa_96_4 rfl (r := 4) rfl) rfl ?_
    refine at_pure (by exact pv_load ld_23 rfl (box_cell (.s (.s (.s (.s (.s (.s (.s .z))))))) (.s (.s (.s (.s .z)))))) rfl ?_
    refine at_pure (pv_len Try.underlying23 rfl) rfl ?_
    refine at_pure (pv_move rfl) rfl ?_
    refine at_nil ?_
    refine ex_go ?_
    refine cd_block ?_
    refine cd_loop (σ := Nat × Int) (fun s => [(1, Value.pointer (some ⟨g1, 0, none⟩)), (6, .int .i64 s.2), (101, .slice sa st.l.length sc), (102, .int .i64 st.l.length), (103, .int .i64 (s.1 : Int))]) (fun s => [MapP fI p.gm p.pm, RowP encH 1 22 (some ⟨p.gb, 0, none⟩) ns.length p.hds, Box p.gp [.slice a ns.length ca, .slice b ls.length cb, .slice c cs.length cc, .map (some p.gm), .slice p.oa (placesO ns ls).length p.oc, .slice (some ⟨p.gb, 0, none⟩) ns.length ns.length] 90, RowP enc1 1 3 p.oa p.oc (placesO ns ls), RowsP enc1 1 3 p.hds, RowP enc1 1 3 (some ⟨gf, 0, none⟩) wk st.b, RowP enc1 1 3 (some ⟨ge, 0, none⟩) ns.length (endsOf ns st.l), Box gl [.pointer (some ⟨p.gp, 0, none⟩), .int .i64 st.t, .slice (some ⟨gf, 0, none⟩) (st.b).length wk, .slice (some ⟨ge, 0, none⟩) (endsOf ns st.l).length ns.length, .slice sa (st.l).length sc] 96, RowP enc4 4 39 sa sc st.l, Box g1 [Value.pointer (some ⟨gl, 0, none⟩)] 93]) (fun s => s.1 ≤ st.l.length ∧ st.l.foldl (laterF st.t) (-1) = (st.l.drop s.1).foldl (laterF st.t) s.2) (fun s => st.l.length - s.1) (0, -1) ⟨Nat.zero_le _, rfl⟩ ⟨rfl, rfl, rfl, rfl, rfl, trivial⟩ (by repeat first | exact sLn _ | apply sLc | apply sLd) ?_
    rintro ⟨k, o⟩ ⟨hk, hq⟩
    dsimp only at hk hq ⊢
    refine cd_seq ?_
    refine cd_region ?_
    refine at_pure (pv_lss rfl rfl) rfl ?_
    refine at_nil ?_
    refine ex_go ?_
    refine cd_seq ?_
    refine cd_if rfl (fun hlt => ?_) (fun hlt => ?_)
    · skip
      refine cd_skip ?_
      refine ex_go ?_
      refine cd_seq ?_
      refine cd_block ?_
      refine cd_seq ?_
      have hkl : k < st.l.length := by simpa using hlt
      obtain ⟨z, hz⟩ := get_of hkl
      refine cd_region ?_
      refine at_pure (pv_ix Try.underlying23 cz_39 rfl rfl (by first | omega | (simp only [decide_eq_true_eq, decide_eq_false_iff_not] at *; omega)) hrs (k := k) (by omega)) rfl ?_
      refine at_pure (pv_elems ag_39 rfl (RowP.gets len4 (by decide) (.s (.s (.s (.s (.s (.s (.s (.s .z)))))))) hz) rfl) rfl ?_
      refine at_does (does_alloc ze_39 .agg (fun _ => (.cons (.cons (.cons (.cons (.cons (.cons (.cons (.cons (.cons (.cons .nil)))))))))))) rfl (fun g5 => ?_)
      refine at_turns (by exact turns_store sz_39 rfl rfl .agg rfl rfl (.s (.s (.s (.s (.s (.s (.s (.s (.s (.s .z)))))))))) (.rep (.rep (.rep (.rep .done)))) (.s (.s (.s (.s (.s (.s (.s (.s (.s (.s .z))))))))))) ?_
      refine at_nil ?_
      refine ex_go ?_
      refine cd_seq ?_
      refine cd_draw' 17 follows ?_
      refine dr_take 0 rfl (by kernel_rfl) (.refl _) (pv_field0 fa_39_3 rfl (r := 3) rfl) rfl ?_
      refine dr_take 1 rfl (by kernel_rfl) (.refl _) (by exact pv_load ld_3 rfl (box_cell (.s (.s (.s (.s (.s (.s (.s (.s (.s (.s .z)))))))))) (.s (.s (.s .z))))) rfl ?_
      refine dr_take 2 rfl (by kernel_rfl) (.refl _) (by exact pv_load ld_93 rfl (box_cell (.s (.s (.s (.s (.s (.s (.s (.s (.s .z))))))))) .z)) rfl ?_
      refine dr_take 3 rfl (by kernel_rfl) (.refl _) (pv_nilCheck rfl) rfl ?_
      refine dr_take 4 rfl (by kernel_rfl) (.refl _) (pv_field0 fa_96_1 rfl (r := 1) rfl) rfl ?_
      refine dr_take 5 rfl (by kernel_rfl) (.refl _) (by exact pv_load ld_3 rfl (box_cell (.s (.s (.s (.s (.s (.s (.s .z))))))) (.s .z))) rfl ?_
      refine dr_take 6 rfl (by kernel_rfl) (.refl _) (pv_gtr rfl rfl) rfl ?_
      refine dr_take 7 rfl (by kernel_rfl) (.refl _) (pv_move rfl) rfl ?_
      refine dr_split 114 rfl (fun hb8 => ?_) (fun hb8 => ?_)
      · skip
        refine dr_take_g 8 rfl rfl rfl hb8 (by kernel_rfl) (.refl _) (pv_move rfl) rfl ?_
        refine dr_take_g 9 rfl rfl rfl hb8 (by kernel_rfl) (.refl _) (pv_lss rfl rfl) rfl ?_
        refine dr_take_g 10 rfl rfl rfl hb8 (by kernel_rfl) (.refl _) (pv_move rfl) rfl ?_
        refine dr_split 117 rfl (fun hb9 => ?_) (fun hb9 => ?_)
        · skip
          refine dr_skip 11 rfl rfl rfl hb9 (by kernel_rfl) (.refl _) rfl ?_
          refine dr_skip 12 rfl rfl rfl hb9 (by kernel_rfl) (.refl _) rfl ?_
          refine dr_skip 13 rfl rfl rfl hb9 (by kernel_rfl) (.refl _) rfl ?_
          refine dr_skip 14 rfl rfl rfl hb9 (by kernel_rfl) (.refl _) rfl ?_
          refine dr_take_g 15 rfl rfl rfl hb8 (by kernel_rfl) (.refl _) (pv_pick_t rfl hb9 rfl) rfl ?_
          refine dr_take 16 rfl (by kernel_rfl) (.refl _) (pv_pick_t rfl hb8 rfl) rfl ?_
          refine dr_done (by kernel_rfl) ?_
          refine ex_go ?_
          refine cd_then rfl rfl ?_
          refine cd_region ?_
          refine at_pure (pv_field0 fa_39_3 rfl (r := 3) rfl) rfl ?_
          refine at_pure (by exact pv_load ld_3 rfl (box_cell (.s (.s (.s (.s (.s (.s (.s (.s (.s (.s .z)))))))))) (.s (.s (.s .z))))) rfl ?_
          refine at_pure (pv_assign rfl) rfl ?_
          refine at_nil ?_
          refine ex_in_normal (ex_go ?_)
          refine cd_region ?_
          refine at_pure (by first | exact pv_add_n rfl rfl (by unfold In64; omega) | exact pv_add rfl rfl) rfl ?_
          refine at_pure (pv_move rfl) rfl ?_
          refine at_nil ?_
          exact ex_meet (k + 1, _) ⟨⟨by dsimp only; omega, fold_step hq hz (by simp only [laterF, Bool.and_true, Bool.true_and, Bool.and_false, Bool.false_and, Bool.or_true, Bool.true_or, Bool.or_false, Bool.false_or, cond_true, cond_false, *])⟩, by dsimp only; omega⟩ ⟨rfl, rfl, rfl, rfl, rfl, trivial⟩ (by repeat first | exact sLn _ | apply sLc | apply sLd)
        · skip
          refine dr_take_g 11 rfl rfl rfl hb9 (by kernel_rfl) (.refl _) (pv_field0 fa_39_3 rfl (r := 3) rfl) rfl ?_
          refine dr_take_g 12 rfl rfl rfl hb9 (by kernel_rfl) (.refl _) (by exact pv_load ld_3 rfl (box_cell (.s (.s (.s (.s (.s (.s (.s (.s (.s (.s .z)))))))))) (.s (.s (.s .z))))) rfl ?_
          refine dr_take_g 13 rfl rfl rfl hb9 (by kernel_rfl) (.refl _) (pv_move rfl) rfl ?_
          refine dr_take_g 14 rfl rfl rfl hb9 (by kernel_rfl) (.refl _) (pv_lss rfl rfl) rfl ?_
          refine dr_take_g 15 rfl rfl rfl hb8 (by kernel_rfl) (.refl _) (pv_pick_f rfl hb9 rfl) rfl ?_
          refine dr_take 16 rfl (by kernel_rfl) (.refl _) (pv_pick_t rfl hb8 rfl) rfl ?_
          refine dr_done (by kernel_rfl) ?_
          refine ex_go ?_
          refine cd_if rfl (fun hb10 => ?_) (fun hb10 => ?_)
          · skip
            refine cd_region ?_
            refine at_pure (pv_field0 fa_39_3 rfl (r := 3) rfl) rfl ?_
            refine at_pure (by exact pv_load ld_3 rfl (box_cell (.s (.s (.s (.s (.s (.s (.s (.s (.s (.s .z)))))))))) (.s (.s (.s .z))))) rfl ?_
            refine at_pure (pv_assign rfl) rfl ?_
            refine at_nil ?_
            refine ex_in_normal (ex_go ?_)
            refine cd_region ?_
            refine at_pure (by first | exact pv_add_n rfl rfl (by unfold In64; omega) | exact pv_add rfl rfl) rfl ?_
            refine at_pure (pv_move rfl) rfl ?_
            refine at_nil ?_
            exact ex_meet (k + 1, _) ⟨⟨by dsimp only; omega, fold_step hq hz (by simp only [laterF, Bool.and_true, Bool.true_and, Bool.and_false, Bool.false_and, Bool.or_true, Bool.true_or, Bool.or_false, Bool.false_or, cond_true, cond_false, *])⟩, by dsimp only; omega⟩ ⟨rfl, rfl, rfl, rfl, rfl, trivial⟩ (by repeat first | exact sLn _ | apply sLc | apply sLd)
          · skip
            refine cd_skip ?_
            refine ex_in_normal (ex_go ?_)
            refine cd_region ?_
            refine at_pure (by first | exact pv_add_n rfl rfl (by unfold In64; omega) | exact pv_add rfl rfl) rfl ?_
            refine at_pure (pv_move rfl) rfl ?_
            refine at_nil ?_
            exact ex_meet (k + 1, _) ⟨⟨by dsimp only; omega, fold_step hq hz (by simp only [laterF, Bool.and_true, Bool.true_and, Bool.and_false, Bool.false_and, Bool.or_true, Bool.true_or, Bool.or_false, Bool.false_or, cond_true, cond_false, *])⟩, by dsimp only; omega⟩ ⟨rfl, rfl, rfl, rfl, rfl, trivial⟩ (by repeat first | exact sLn _ | apply sLc | apply sLd)
      · skip
        refine dr_skip 8 rfl rfl rfl hb8 (by kernel_rfl) (.refl _) rfl ?_
        refine dr_skip 9 rfl rfl rfl hb8 (by kernel_rfl) (.refl _) rfl ?_
        refine dr_skip 10 rfl rfl rfl hb8 (by kernel_rfl) (.refl _) rfl ?_
        refine dr_skip_u 11 rfl rfl rfl (by kernel_rfl) (.refl _) rfl ?_
        refine dr_skip_u 12 rfl rfl rfl (by kernel_rfl) (.refl _) rfl ?_
        refine dr_skip_u 13 rfl rfl rfl (by kernel_rfl) (.refl _) rfl ?_
        refine dr_skip_u 14 rfl rfl rfl (by kernel_rfl) (.refl _) rfl ?_
        refine dr_skip 15 rfl rfl rfl hb8 (by kernel_rfl) (.refl _) rfl ?_
        refine dr_take 16 rfl (by kernel_rfl) (.refl _) (pv_pick_f rfl hb8 rfl) rfl ?_
        refine dr_done (by kernel_rfl) ?_
        refine ex_go ?_
        refine cd_else rfl rfl ?_
        refine cd_skip ?_
        refine ex_in_normal (ex_go ?_)
        refine cd_region ?_
        refine at_pure (by first | exact pv_add_n rfl rfl (by unfold In64; omega) | exact pv_add rfl rfl) rfl ?_
        refine at_pure (pv_move rfl) rfl ?_
        refine at_nil ?_
        exact ex_meet (k + 1, _) ⟨⟨by dsimp only; omega, fold_step hq hz (by simp only [laterF, Bool.and_true, Bool.true_and, Bool.and_false, Bool.false_and, Bool.or_true, Bool.true_or, Bool.or_false, Bool.false_or, cond_true, cond_false, *])⟩, by dsimp only; omega⟩ ⟨rfl, rfl, rfl, rfl, rfl, trivial⟩ (by repeat first | exact sLn _ | apply sLc | apply sLd)
    · skip
      refine cd_exit ?_
      refine ex_then_exit (ex_then_exit (ex_in (ex_go ?_)))
      refine cd_region ?_
      refine at_pure (by exact pv_load ld_93 rfl (box_cell (.s (.s (.s (.s (.s (.s (.s (.s (.s .z))))))))) .z)) rfl ?_
      refine at_pure (pv_move rfl) rfl ?_
      refine at_pure (pv_nilCheck rfl) rfl ?_
      refine at_pure (pv_field0 fa_96_1 rfl (r := 1) rfl) rfl ?_
      refine at_turns (by exact turns_store sz_3 rfl rfl (.one rfl) rfl rfl (.s (.s (.s (.s (.s (.s (.s .z))))))) (.skip (.rep .done)) (.s (.s (.s (.s (.s (.s (.s .z)))))))) ?_
      refine at_nil ?_
      exact end_normal0 rfl (fun w hs => by first | exact Uses.mk (a9, c9) trivial rfl hs (by rw [hes]; dsimp only; rw [endsOf_snoc (s := (yy.1, (freeI st.b st.t), st.t, (st.t + at1 cs (placeI ns yy.1).toNat))) hg.nd hpl.1 hsx]; simp only [List.length_set]; repeat first | exact sLn _ | apply sLc | apply sLd) | (have hla : laterS st.l st.t = o := (fold_end hq (by simp at hlt; omega)); exact Uses.mk (sa, sc) trivial rfl hs (by rw [het, hla]; repeat first | exact sLn _ | apply sLc | apply sLd)))

end Go.Proofs.Ytkejdfnpbkdllaa
