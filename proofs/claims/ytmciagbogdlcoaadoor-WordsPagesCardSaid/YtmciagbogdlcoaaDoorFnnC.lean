/- Functions held against what they tell. Written by a program of this session. -/
import Derived.Test.YtmciagbogdlcoaaDoorPlC
import Derived.Test.YtmciagbogdlcoaaDoorViThree
import Derived.Test.YtmciagbogdlcoaaDoorFnnK
set_option linter.unnecessarySimpa false
set_option linter.unusedVariables false
set_option linter.unusedSectionVars false
set_option linter.unusedSimpArgs false
set_option autoImplicit false
set_option linter.unusedVariables false
set_option maxRecDepth 100000
attribute [local irreducible] Vi.fnVc
namespace Vs
open Go Vi Go.Proofs
abbrev I_match_counts : Pat := { slots := [(0, .ce (.v (.sl .str))), (1, .ce (.v (.sl .str)))], ents := [] }
abbrev O_match_counts : Pat := { slots := [(0, .ce (.os 0))], ents := [.refs 120 1, .bun 3 (.int .i64)] }
def c_match_counts : Ctr := { k0 := 0, inp := I_match_counts, body := fun v => .need (Sp.table.pre v.1 v.2.1) (.ret ⟨O_match_counts, ((((Sp.table v.1 v.2.1)).length : Int), (Sp.table v.1 v.2.1), ())⟩), ex := 0 }
def an_match_counts : Ann := [(3, { slots := [(0, .ce (.v (.sl .str))), (1, .ce (.v (.sl .str))), (5, .ce (.os 0)), (14, .ce (.v (.int .i64))), (15, .ce (.v (.int .i64)))], ents := [.refs 120 1, .bun 3 (.int .i64)] }), (8, { slots := [(0, .ce (.v (.sl .str))), (1, .ce (.v (.sl .str))), (5, .ce (.os 0)), (7, .ce (.v (.int .i64)))], ents := [.refs 120 1, .bun 3 (.int .i64)] }), (11, { slots := [(0, .ce (.v (.sl .str))), (1, .ce (.v (.sl .str))), (5, .ce (.os 0)), (7, .ce (.v (.int .i64))), (8, .ce (.v (.int .i64)))], ents := [.refs 120 1, .bun 3 (.int .i64)] })]
def cx_match_counts : Cx := mkCx []
theorem eq_match_counts (a : (List Str)) (b : (List Str)) (R : ((p : Pat) × p.V) → Prop) : fnVc (cx_match_counts) an_match_counts 0 Tryd.f87 I_match_counts [O_match_counts] (a, b, ()) R = match_counts.vc (fun y0 y1 => R ⟨O_match_counts, (y0, y1, ())⟩) a b := by kernel_rfl
theorem fs_match_counts : CtrsOk Tryd.prog [] gl := trivial
theorem vc_match_counts (H : Nat → Entry) (v : c_match_counts.inp.V) (r : (p : Pat) × p.V) (h : (c_match_counts.body v).Sel H r) : fnVc (cx_match_counts) an_match_counts 0 Tryd.f87 c_match_counts.inp [O_match_counts] v (fun r' => r' = r) := by
  obtain ⟨a, b, ⟨⟩⟩ := v
  obtain ⟨h, rfl⟩ := h
  exact Eq.mpr (eq_match_counts a b _) (match_counts.ok _ a b h rfl)
theorem ctr_match_counts : CtrOk Tryd.prog 87 c_match_counts gl := ⟨⟨_, Tryd.func87, by kernel_rfl, by kernel_rfl⟩, fun H v r h => mk_ok _ (fs_match_counts) (an := an_match_counts) (outs := [O_match_counts]) Tryd.func87 (by decide) (vc_match_counts H v r h)⟩
abbrev I_match_Line : Pat := { slots := [(0, .ce (.v (.sl .str))), (1, .ce (.v (.sl .str)))], ents := [] }
abbrev O_match_Line : Pat := { slots := [(0, .ce (.os 0))], ents := [.row 101 (.pair (.int .i64) (.pair (.int .i64) .bool))] }
def c_match_Line : Ctr := { k0 := 0, inp := I_match_Line, body := fun v => .need (Sp.lines.pre v.1 v.2.1) (.ret ⟨O_match_Line, ((Sp.lines v.1 v.2.1), ())⟩), ex := 0 }
def an_match_Line : Ann := [(4, { slots := [(0, .ce (.v (.sl .str))), (1, .ce (.v (.sl .str))), (5, .ce (.os 0)), (6, .ce (.os 2)), (7, .ce (.v (.int .i64))), (8, .ce (.v (.int .i64)))], ents := [.refs 120 1, .bun 3 (.int .i64), .row 101 (.pair (.int .i64) (.pair (.int .i64) .bool))] })]
def cx_match_Line : Cx := mkCx [(87, [c_match_counts])]
theorem eq_match_Line (a : (List Str)) (b : (List Str)) (R : ((p : Pat) × p.V) → Prop) : fnVc (cx_match_Line) an_match_Line 0 Tryd.f70 I_match_Line [O_match_Line] (a, b, ()) R = match_Line.vc (fun y0 => R ⟨O_match_Line, (y0, ())⟩) a b := by kernel_rfl
theorem fs_match_Line : CtrsOk Tryd.prog [(87, [c_match_counts])] gl := ⟨ctr1 (ctr_match_counts), trivial⟩
theorem vc_match_Line (H : Nat → Entry) (v : c_match_Line.inp.V) (r : (p : Pat) × p.V) (h : (c_match_Line.body v).Sel H r) : fnVc (cx_match_Line) an_match_Line 0 Tryd.f70 c_match_Line.inp [O_match_Line] v (fun r' => r' = r) := by
  obtain ⟨a, b, ⟨⟩⟩ := v
  obtain ⟨h, rfl⟩ := h
  exact Eq.mpr (eq_match_Line a b _) (match_Line.ok _ a b h rfl)
theorem ctr_match_Line : CtrOk Tryd.prog 70 c_match_Line gl := ⟨⟨_, Tryd.func70, by kernel_rfl, by kernel_rfl⟩, fun H v r h => mk_ok _ (fs_match_Line) (an := an_match_Line) (outs := [O_match_Line]) Tryd.func70 (by decide) (vc_match_Line H v r h)⟩
abbrev I_rectoref20_best : Pat := { slots := [(0, .ce (.v (.sl .str))), (1, .ce (.v (.sl .str)))], ents := [] }
abbrev O_rectoref20_best : Pat := { slots := [(0, .ce (.os 0))], ents := [.row 130 (.one (.sl (.int .i64)))] }
def c_rectoref20_best : Ctr := { k0 := 0, inp := I_rectoref20_best, body := fun v => .need (Sp.table.pre v.1 v.2.1) (.ret ⟨O_rectoref20_best, ((Sp.table v.1 v.2.1), ())⟩), ex := 0 }
def an_rectoref20_best : Ann := [(3, { slots := [(0, .ce (.v (.sl .str))), (1, .ce (.v (.sl .str))), (5, .ce (.ptr 0 0)), (16, .ce (.v (.int .i64))), (17, .ce (.v (.int .i64)))], ents := [.box 130 [.os 1], .row 3 (.int .i64)] }), (9, { slots := [(0, .ce (.v (.sl .str))), (1, .ce (.v (.sl .str))), (6, .ce (.os 0)), (7, .ce (.v (.int .i64)))], ents := [.row 130 (.one (.sl (.int .i64)))] }), (14, { slots := [(0, .ce (.v (.sl .str))), (1, .ce (.v (.sl .str))), (6, .ce (.os 0)), (7, .ce (.v (.int .i64))), (8, .ce (.v (.sl (.int .i64)))), (9, .ce (.os 1)), (10, .ce (.v (.int .i64)))], ents := [.row 130 (.one (.sl (.int .i64))), .row 3 (.int .i64)] })]
def cx_rectoref20_best : Cx := mkCx []
theorem eq_rectoref20_best (a : (List Str)) (b : (List Str)) (R : ((p : Pat) × p.V) → Prop) : fnVc (cx_rectoref20_best) an_rectoref20_best 0 Tryd.f88 I_rectoref20_best [O_rectoref20_best] (a, b, ()) R = rectoref20_best.vc (fun y0 => R ⟨O_rectoref20_best, (y0, ())⟩) a b := by kernel_rfl
theorem fs_rectoref20_best : CtrsOk Tryd.prog [] gl := trivial
theorem vc_rectoref20_best (H : Nat → Entry) (v : c_rectoref20_best.inp.V) (r : (p : Pat) × p.V) (h : (c_rectoref20_best.body v).Sel H r) : fnVc (cx_rectoref20_best) an_rectoref20_best 0 Tryd.f88 c_rectoref20_best.inp [O_rectoref20_best] v (fun r' => r' = r) := by
  obtain ⟨a, b, ⟨⟩⟩ := v
  obtain ⟨h, rfl⟩ := h
  exact Eq.mpr (eq_rectoref20_best a b _) (rectoref20_best.ok _ a b h rfl)
theorem ctr_rectoref20_best : CtrOk Tryd.prog 88 c_rectoref20_best gl := ⟨⟨_, Tryd.func88, by kernel_rfl, by kernel_rfl⟩, fun H v r h => mk_ok _ (fs_rectoref20_best) (an := an_rectoref20_best) (outs := [O_rectoref20_best]) Tryd.func88 (by decide) (vc_rectoref20_best H v r h)⟩
abbrev I_rectoref20_Line : Pat := { slots := [(0, .ce (.v (.sl .str))), (1, .ce (.v (.sl .str)))], ents := [] }
abbrev O_rectoref20_Line : Pat := { slots := [(0, .ce (.os 0))], ents := [.row 104 (.pair (.int .i64) (.pair (.int .i64) .bool))] }
def c_rectoref20_Line : Ctr := { k0 := 0, inp := I_rectoref20_Line, body := fun v => .need (Sp.lines.pre v.1 v.2.1) (.ret ⟨O_rectoref20_Line, ((Sp.lines v.1 v.2.1), ())⟩), ex := 0 }
def an_rectoref20_Line : Ann := [(5, { slots := [(0, .ce (.v (.sl .str))), (1, .ce (.v (.sl .str))), (5, .ce (.os 0)), (6, .ce (.os 1)), (7, .ce (.v (.int .i64))), (8, .ce (.v (.int .i64)))], ents := [.row 130 (.one (.sl (.int .i64))), .row 104 (.pair (.int .i64) (.pair (.int .i64) .bool))] })]
def cx_rectoref20_Line : Cx := mkCx [(88, [c_rectoref20_best])]
theorem eq_rectoref20_Line (a : (List Str)) (b : (List Str)) (R : ((p : Pat) × p.V) → Prop) : fnVc (cx_rectoref20_Line) an_rectoref20_Line 0 Tryd.f71 I_rectoref20_Line [O_rectoref20_Line] (a, b, ()) R = rectoref20_Line.vc (fun y0 => R ⟨O_rectoref20_Line, (y0, ())⟩) a b := by kernel_rfl
theorem fs_rectoref20_Line : CtrsOk Tryd.prog [(88, [c_rectoref20_best])] gl := ⟨ctr1 (ctr_rectoref20_best), trivial⟩
theorem vc_rectoref20_Line (H : Nat → Entry) (v : c_rectoref20_Line.inp.V) (r : (p : Pat) × p.V) (h : (c_rectoref20_Line.body v).Sel H r) : fnVc (cx_rectoref20_Line) an_rectoref20_Line 0 Tryd.f71 c_rectoref20_Line.inp [O_rectoref20_Line] v (fun r' => r' = r) := by
  obtain ⟨a, b, ⟨⟩⟩ := v
  obtain ⟨h, rfl⟩ := h
  exact Eq.mpr (eq_rectoref20_Line a b _) (rectoref20_Line.ok _ a b h rfl)
theorem ctr_rectoref20_Line : CtrOk Tryd.prog 71 c_rectoref20_Line gl := ⟨⟨_, Tryd.func71, by kernel_rfl, by kernel_rfl⟩, fun H v r h => mk_ok _ (fs_rectoref20_Line) (an := an_rectoref20_Line) (outs := [O_rectoref20_Line]) Tryd.func71 (by decide) (vc_rectoref20_Line H v r h)⟩
end Vs
