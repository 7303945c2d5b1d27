/- What the listed variables of the program hold. -/
import Derived.Test.YtmciagbogdlcoaaGreatDoorViThree
import Derived.Test.YtmciagbogdlcoaaGreatDoorTabz
import Derived.Test.YtmciagbogdlcoaaGreatDoorRows
import Derived.WalkKit
import Derived.ProofKit
import Derived.OpenShut
import Derived.ChangeArms
import Derived.Shelf.Vars
import Derived.Deep.DeepHandedRow
import Derived.LaidMore
import Derived.Stop.Joined
import Derived.Lib.LaidTab
set_option linter.unnecessarySimpa false
set_option linter.unusedVariables false
set_option linter.unusedSectionVars false
set_option linter.unusedSimpArgs false
set_option autoImplicit false
set_option linter.unusedVariables false
namespace Go.Proofs.YtmciagbogdlcoaaGreatDoor.Held
open Go Vi
open Go.ChangeShapes Go.WideShapes Go.ChangeAt Go.RowKit
abbrev L3 : List (String × DataW Unit) := [("unicode/utf8.acceptRanges", Rows.laid_unicode_utf8_acceptRanges), ("recto/utf.rows", Rows.laid_recto_utf_rows), ("unicode/utf8.first", Rows.laid_unicode_utf8_first)]
theorem gRows : Tryz.prog.globalNamed "recto/utf.rows" = some 0 := by kernel_rfl
theorem tRows : (Tryz.prog.globals[0]?).map (·.type) = some 136 := by kernel_rfl
theorem cSt : Tryz.prog.cellsOf 135 = 2 := by kernel_rfl
theorem cInt : Tryz.prog.cellsOf 3 = 1 := by kernel_rfl
set_option maxRecDepth 100000 in
theorem two {H : Type} {enc : TypeId × Value → H} {W : World} {base : Nat} {sp : Nat → Bool} {held : Bool} {fuel : Nat} {cs : List Value} {a b : Int} {q : List MemPlace}
    (h : DataW.trod enc Tryz.prog W base sp held fuel 135 cs = some (.agg [.lit (.int .i64 a), .lit (.int .i64 b)], q)) : cs = [.int .i64 a, .int .i64 b] := by
  obtain ⟨xs, m, rfl, hx, hlen, hn, hel⟩ := DataW.trod_struct Tryz.underlying135 h
  rw [cSt] at hlen
  have e0 : DataW.trod enc Tryz.prog W base sp held m 3 ((cs.drop 0).take (Tryz.prog.cellsOf 3)) = xs[0]? := hel 0 _ rfl
  have e1 : DataW.trod enc Tryz.prog W base sp held m 3 ((cs.drop 1).take (Tryz.prog.cellsOf 3)) = xs[1]? := hel 1 _ rfl
  rw [cInt] at e0 e1
  match xs, hn, hx, e0, e1 with
  | [x0, x1], _, hx, e0, e1 =>
    simp only [List.map_cons, List.map_nil, Prod.mk.injEq, DataW.agg.injEq, List.cons.injEq] at hx
    obtain ⟨n0, k0, k1, _⟩ := DataW.trod_int Tryz.underlying3 (show DataW.trod _ Tryz.prog W base sp held m 3 _ = some x0 from e0)
    obtain ⟨n1, k2, k3, _⟩ := DataW.trod_int Tryz.underlying3 (show DataW.trod _ Tryz.prog W base sp held m 3 _ = some x1 from e1)
    rw [k1, k3] at hx
    simp only [DataW.lit.injEq, Lit.int.injEq, true_and, and_true] at hx
    obtain ⟨⟨rfl, rfl⟩, _⟩ := hx
    match cs, hlen with
    | [u, v], _ =>
      simp only [List.drop_zero, List.take_succ_cons, List.take_zero, List.cons.injEq, and_true, List.drop_succ_cons] at k0 k2
      subst k0
      first | (subst k2; rfl) | (simp at k2; subst k2; rfl)
theorem two' {H : Type} {enc : TypeId × Value → H} {W : World} {base : Nat} {sp : Nat → Bool} {held : Bool} {fuel : Nat} {cs : List Value} {a b : Int} {x : DataW H × List MemPlace}
    (e : .agg [.lit (.int .i64 a), .lit (.int .i64 b)] = x.1) (h : DataW.trod enc Tryz.prog W base sp held fuel 135 cs = some x) : cs = [.int .i64 a, .int .i64 b] := by
  obtain ⟨x, q⟩ := x
  subst e
  exact two h
set_option maxRecDepth 100000 in
theorem rows_cells {W : World} (h : laidMetH Tryz.prog L3 W) : ∀ (i : Nat) v, (utfRows.flatMap fun x => [Value.int .i64 x.1, Value.int .i64 x.2])[i]? = some v → W.cell? ⟨0, i, none⟩ = some v := by
  rw [MakeChecks.laidMetH_plain _ _ _ (by kernel_rfl)] at h
  obtain ⟨ps, ⟨g0, t0, cs0, f0, p0, q0, hg0, ht0, hv0, hd0, ⟨g1, t1, cs1, f1, p1, q1, hg1, ht1, hv1, hd1, _, _⟩, _⟩, _, _⟩ := h
  obtain rfl := Option.some.inj (gRows.symm.trans hg1)
  obtain rfl := Option.some.inj (tRows.symm.trans ht1)
  obtain ⟨xs, m, rfl, hx, hlen, hn, hel⟩ := DataW.trod_array Tryz.underlying136 hd1
  rw [cSt] at hel
  have h0 := hel 0 (by decide)
  have h1 := hel 1 (by decide)
  have h2 := hel 2 (by decide)
  have h3 := hel 3 (by decide)
  have h4 := hel 4 (by decide)
  have hc : Tryz.prog.cellsOf 136 = 10 := by kernel_rfl
  rw [hc] at hlen
  intro i v hi
  have hcell := World.var?_cell hg1 hv1 i
  rw [hcell]
  obtain ⟨cs1⟩ := cs1
  simp only at hlen h0 h1 h2 h3 h4
  match xs, hn, hx, h0, h1, h2, h3, h4 with
  | [x0, x1, x2, x3, x4], _, hx, h0, h1, h2, h3, h4 =>
    simp only [Rows.laid_recto_utf_rows, List.map_cons, List.map_nil, Prod.mk.injEq, DataW.agg.injEq, List.cons.injEq, and_true] at hx
    obtain ⟨⟨y0, y1, y2, y3, y4⟩, _⟩ := hx
    have z0 := two' y0 h0
    have z1 := two' y1 h1
    have z2 := two' y2 h2
    have z3 := two' y3 h3
    have z4 := two' y4 h4
    have e : cs1 = utfRows.flatMap fun x => [Value.int .i64 x.1, Value.int .i64 x.2] := by
      match cs1, hlen with
      | [a0, a1, a2, a3, a4, a5, a6, a7, a8, a9], _ =>
        simp at z0 z1 z2 z3 z4
        simp [utfRows, z0, z1, z2, z3, z4]
    subst e
    simpa using hi
theorem gl_ok {W : World} (hL : laidMetH Tryz.prog L3 W) (hs : W.ShapedOpen Tryz.prog) : GOk Vs.gl (fun _ => False) W (fun _ => .dead) (fun _ => undef) := by
  refine ⟨fun g hg => ?_, fun e he => ?_⟩
  · simp only [Vs.gl, List.mem_cons, List.mem_nil_iff, or_false] at hg
    subst hg
    exact ⟨Go.Proofs.cell_of_shapedOpen_int (zero := #[.int .i64 0]) (t := 3) hs (of_decide_eq_true (by kernel_rfl)) (by kernel_rfl) rfl (by kernel_rfl) (by kernel_rfl) Tryz.underlying3, fun h => h, fun id h => absurd rfl h⟩
  · simp only [Vs.gl, List.mem_cons, List.mem_nil_iff, or_false] at he
    subst he
    have hc := rows_cells hL
    refine ⟨⟨World.block_lt_of_cell? _ _ (hc 0 _ rfl), utfRows.flatMap fun x => [Value.int .i64 x.1, Value.int .i64 x.2], ?_, hc⟩, fun h => h, fun id h => absurd rfl h⟩
    refine .arr 5 (.pair (.int .i64) (.int .i64)) utfRows _ rfl rfl fun j hj => ?_
    have hj : j < 5 := hj
    have pr : ∀ a b : Int, (IntKind.i64.min ≤ a ∧ a ≤ IntKind.i64.max) → (IntKind.i64.min ≤ b ∧ b ≤ IntKind.i64.max) → Rp (fun _ => False) W (.pair (.int .i64) (.int .i64)) (a, b) [.int .i64 a, .int .i64 b] := fun a b ha hb => .pair _ _ _ _ [_] [_] (.int _ _ ha.1 ha.2) (.int _ _ hb.1 hb.2)
    match j, hj with
    | 0, _ => exact pr 0 0 (by decide) (by decide)
    | 1, _ => exact pr 0 0 (by decide) (by decide)
    | 2, _ => exact pr 192 128 (by decide) (by decide)
    | 3, _ => exact pr 224 2048 (by decide) (by decide)
    | 4, _ => exact pr 240 65536 (by decide) (by decide)
def put (cs : List Value) : Obj → Obj
  | .cells _ t frozen => .cells cs.toArray t frozen
  | o => o
def accepts : List Int := [128, 191, 160, 191, 128, 159, 144, 191, 128, 143, 0, 0, 0, 0, 0, 0, 0, 0, 0, 0, 0, 0, 0, 0, 0, 0, 0, 0, 0, 0, 0, 0]
/-- A world for the witness: the settled one, the tables holding what they hold. -/
noncomputable def laidWorld (os : Os) : World :=
  { World.holding Tryz.prog os ⟨#[], #[], []⟩ with heap := (((World.holding Tryz.prog os ⟨#[], #[], []⟩).heap.modify 0 (put (utfRows.flatMap fun x => [Value.int .i64 x.1, Value.int .i64 x.2]))).modify 2 (put (Go.Pinned.utf8FirstZ.map fun n : Nat => Value.int .u8 (Int.ofNat n)))).modify 3 (put (accepts.map fun n => Value.int .u8 n)) }
set_option maxRecDepth 100000 in
theorem laid_met (os : Os) (args : Array Value) : laidMet Tryz.prog L3 ((laidWorld os).forCall (fun _ _ => 0) ⟨#[], args, []⟩).memory :=
  laidMet_of_run' 8 (by kernel_rfl) (by kernel_rfl)
end Go.Proofs.YtmciagbogdlcoaaGreatDoor.Held
