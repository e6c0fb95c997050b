/- Reads of maps in their kinds; a store that begins a map; starts that own pieces, calls that turn them. No program is named here. -/
import Derived.Test.YtkejdfnpbkdllaaVJ
namespace Go.Proofs.YtkejdfnpbkdllaaV
open Go Go.RowKit
set_option linter.unusedVariables false
set_option linter.unusedSimpArgs false

abbrev fI (i : Int) : Value := .int .i64 i
abbrev fB (b : Bool) : Value := .bool b
section
variable {α : Type} {f : α → Value} {g : Nat} {k : Int}
variable {P : Program} {S : List Nat} {w0 w w' : World} {Γ Γ' : List Piece} {L L' : List (Nat × Value)} {n : Nat} {ops : Array Oper} {rest : List Oper} {Q : Exit → Act → World → Prop} {o : Oper} {d : Nat} {v : Value}
variable {ty : TypeId} {x y z c : Operand} {pos : String} {after : Array Edge} {op : Op} {C : World → Prop} {t T e : TypeId}

theorem pv_mapgetI {kv : List (Int × Int)} (ht : P.underlying t = some (.map T e)) (hT : P.underlying T = some (.int .i64)) (hz : (P.info? e).bind (·.zero) = some (.int .i64 0)) (hx : ev L x = some (.map (some g))) (hy : ev L y = some (.int .i64 k)) (hm : ∀ w, C w → MapAt fI w g kv) :
    Pure P n L C (.lookup t x y false) ty (.int .i64 ((mget kv k).getD 0)) := pv_mapget (0 : Int) ht hT hz hx hy hm rfl
theorem pv_mapgetB {kv : List (Int × Bool)} (ht : P.underlying t = some (.map T e)) (hT : P.underlying T = some (.int .i64)) (hz : (P.info? e).bind (·.zero) = some (.bool false)) (hx : ev L x = some (.map (some g))) (hy : ev L y = some (.int .i64 k)) (hm : ∀ w, C w → MapAt fB w g kv) :
    Pure P n L C (.lookup t x y false) ty (.bool ((mget kv k).getD false)) := pv_mapget false ht hT hz hx hy hm rfl
theorem pv_mapgetI2 {kv : List (Int × Int)} (ht : P.underlying t = some (.map T e)) (hT : P.underlying T = some (.int .i64)) (hz : (P.info? e).bind (·.zero) = some (.int .i64 0)) (hx : ev L x = some (.map (some g))) (hy : ev L y = some (.int .i64 k)) (hm : ∀ w, C w → MapAt fI w g kv) :
    Pure P n L C (.lookup t x y true) ty (.tuple #[.int .i64 ((mget kv k).getD 0), .bool (mget kv k).isSome]) := pv_mapget2 (0 : Int) ht hT hz hx hy hm rfl

theorem At.know {φ : Prop} (h : ∀ w, St S w0 w Γ → φ) (k : φ → At P ops Q rest n L S w0 Γ) : At P ops Q rest n L S w0 Γ := fun a w hf hs => k (h w hs) a w hf hs
/-- A number of one kind as one of another. -/
theorem pv_conv {t t' : TypeId} {k kd : IntKind} {z r : Int} (hs : (P.underlying t).isSome = true) (hd : P.underlying t' = some (.int kd)) (hx : ev L x = some (.int k z)) (hr : kd.wrap z = r) : Pure P n L C (.convert t t' x) ty (.int kd r) := fun a w _ _ _ _ hf _ => by
  simp only [execOp]; rw [hf.at_ hx, ← hr]
  obtain ⟨d, hd'⟩ := Option.isSome_iff_exists.mp hs
  simp [convert, run_underlying hd', run_underlying hd, Conv.intToInt]
/-- A place of an array in a variable. -/
theorem pv_indexArr {t e : TypeId} {g off len r m : Nat} {K : IntKind} {i : Int} (ht : P.underlying t = some (.array len e)) (hm : (Nat.beq (P.cellsOf e) m && !Nat.beq m 0) = true) (hx : ev L x = some (.pointer (some ⟨g, off, none⟩))) (hy : ev L y = some (.int K i))
    (h : (decide (0 ≤ i) && decide (i < len)) = true) (hr : off + i.toNat * m = r) : Pure P n L C (.indexAddr t x y) ty (.pointer (some ⟨g, r, none⟩)) := fun a w _ _ _ _ hf _ => by
  simp only [Bool.and_eq_true, decide_eq_true_eq, Bool.not_eq_true'] at h hm
  have hm1 : P.cellsOf e = m := by simpa using hm.1
  obtain ⟨j, hj1, hj2⟩ := cellsOf_info (P := P) (t := e) (by rw [hm1]; exact hm.2)
  simp only [execOp]; rw [hf.at_ hx, hf.at_ hy]
  simp [Instr.indexAt, asIntOf, Instr.sureAddr, run_underlying ht, h, sizeOf, typeInfo, hj1, hj2, hm1, hr, Addr.add_lit]
/-- A call that uses a variable up and makes things of which something is known. -/
def Mades (P : Program) (n : Nat) (L : List (Nat × Value)) (S : List Nat) (w0 : World) (Γ : List Piece) (op : Op) (ty : TypeId) {X : Type} (val : X → Value) (good : X → Prop) (Γx : X → List Piece) : Prop :=
  Does P n L S w0 Γ op ty (X := {z : X // good z}) (fun z => val z.1) (fun z => Γx z.1)
theorem at_mades {X : Type} {val : X → Value} {good : X → Prop} {Γx : X → List Piece} (h : Mades P n L S w0 Γ op ty val good Γx) (hd : Nat.blt d n = true) (k : ∀ z, good z → At P ops Q rest n ((d, val z) :: L) S w0 (Γx z)) :
    At P ops Q (⟨some d, op, ty, pos, after, none⟩ :: rest) n L S w0 Γ := at_does h hd fun z => k z.1 z.2
theorem does_mades {X : Type} {g i : Nat} {val : X → Value} {Δ : X → List Piece} {good : X → Prop} {f : FuncId} {us caps : Array Value} {vs args : List Value} {xs : Array Operand} {tys : Array TypeId} {cs : List Value} {T : TypeId} {Γx : X → List Piece}
    (hf : Callable P f) (hx : ev L x = some (.func (.func f) us caps)) (hargs : evs L xs.toList = some vs) (he : us.toList ++ vs ++ caps.toList = args) (hin : Nth Γ i (Box g cs T))
    (hc : ∀ w, St S w0 w Γ → Calls P f args.toArray w (Made g val Δ good w)) (hΓ : ∀ z, Γ.eraseIdx i ++ Δ z = Γx z) : Mades P n L S w0 Γ (.call ⟨.value x, xs, tys⟩) ty val good Γx := does_made hf hx hargs he hin hc hΓ
/-- A variable that holds a list written out shows it. -/
theorem St.boxes {β : Type} {enc : β → List Value} {m i g : Nat} {e : TypeId} {cs : List Value} {xs : List β} (hm : ∀ z, (enc z).length = m) (hs : St S w0 w Γ) (hin : Nth Γ i (Box g cs e)) (hcs : cs = xs.flatMap enc) (hsm : xs.length ≤ 9223372036854775807) : Sl [] enc m w (some ⟨g, 0, none⟩) xs.length xs := by
  refine ⟨.inr rfl, Nat.le_refl _, by simp, hsm, by simp, fun _ => (hs.ins _ (List.mem_of_getElem? hin.get) g (by simp [Box])).1, fun i x hi j v hj => ?_⟩
  show w.cell? (Addr.add ⟨g, 0, none⟩ (i * m + j)) = some v
  rw [Addr.add_lit, Nat.zero_add]
  subst hcs
  exact cell_of_block (hs.box hin.get) (flatMap_get hm xs i x hi j v hj)
end
end Go.Proofs.YtkejdfnpbkdllaaV
