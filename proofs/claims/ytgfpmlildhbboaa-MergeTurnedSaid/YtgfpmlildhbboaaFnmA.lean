/- Functions held against what they tell. Written by a program of this session. -/
import Derived.Test.YtgfpmlildhbboaaPlA
import Derived.Test.YtgfpmlildhbboaaViThree
import Derived.Test.YtgfpmlildhbboaaTabm
set_option linter.unnecessarySimpa false
set_option linter.unusedVariables false
set_option linter.unusedSectionVars false
set_option linter.unusedSimpArgs false
set_option autoImplicit false
set_option linter.unusedVariables false
set_option maxRecDepth 100000
namespace Vs
open Go Vi Go.Proofs
abbrev I_match_counts : Pat := { slots := [(0, .ce (.v (.sl .str))), (1, .ce (.v (.sl .str)))], ents := [] }
abbrev O_match_counts : Pat := { slots := [(0, .ce (.os 0))], ents := [.refs 65 1, .bun 3 (.int .i64)] }
def c_match_counts : Ctr := { k0 := 0, inp := I_match_counts, body := fun v => .need (Sp.table.pre v.1 v.2.1) (.ret ⟨O_match_counts, ((((Sp.table v.1 v.2.1)).length : Int), (Sp.table v.1 v.2.1), ())⟩) }
def an_match_counts : Ann := [(3, { slots := [(0, .ce (.v (.sl .str))), (1, .ce (.v (.sl .str))), (5, .ce (.os 0)), (14, .ce (.v (.int .i64))), (15, .ce (.v (.int .i64)))], ents := [.refs 65 1, .bun 3 (.int .i64)] }), (8, { slots := [(0, .ce (.v (.sl .str))), (1, .ce (.v (.sl .str))), (5, .ce (.os 0)), (7, .ce (.v (.int .i64)))], ents := [.refs 65 1, .bun 3 (.int .i64)] }), (11, { slots := [(0, .ce (.v (.sl .str))), (1, .ce (.v (.sl .str))), (5, .ce (.os 0)), (7, .ce (.v (.int .i64))), (8, .ce (.v (.int .i64)))], ents := [.refs 65 1, .bun 3 (.int .i64)] })]
def cx_match_counts : Cx := mkCx []
theorem eq_match_counts (a : (List Str)) (b : (List Str)) (R : ((p : Pat) × p.V) → Prop) : fnVc (cx_match_counts) an_match_counts 0 Try.f38 I_match_counts [O_match_counts] (a, b, ()) R = match_counts.vc (fun y0 y1 => R ⟨O_match_counts, (y0, y1, ())⟩) a b := by kernel_rfl
theorem fs_match_counts : CtrsOk Try.prog [] := trivial
theorem ctr_match_counts : CtrOk Try.prog 38 c_match_counts := ⟨⟨_, Try.func38, by kernel_rfl, by kernel_rfl⟩, by
  intro H v r h
  obtain ⟨a, b, ⟨⟩⟩ := v
  obtain ⟨h, rfl⟩ := h
  exact mk_ok _ (fs_match_counts) (an := an_match_counts) (outs := [O_match_counts]) Try.func38 (by decide) (Eq.mpr (eq_match_counts a b _) (match_counts.ok _ a b h rfl))⟩
abbrev I_match_Line : Pat := { slots := [(0, .ce (.v (.sl .str))), (1, .ce (.v (.sl .str)))], ents := [] }
abbrev O_match_Line : Pat := { slots := [(0, .ce (.os 0))], ents := [.row 31 (.pair (.int .i64) (.pair (.int .i64) .bool))] }
def c_match_Line : Ctr := { k0 := 0, inp := I_match_Line, body := fun v => .need (Sp.lines.pre v.1 v.2.1) (.ret ⟨O_match_Line, ((Sp.lines v.1 v.2.1), ())⟩) }
def an_match_Line : Ann := [(4, { slots := [(0, .ce (.v (.sl .str))), (1, .ce (.v (.sl .str))), (5, .ce (.os 0)), (6, .ce (.os 2)), (7, .ce (.v (.int .i64))), (8, .ce (.v (.int .i64)))], ents := [.refs 65 1, .bun 3 (.int .i64), .row 31 (.pair (.int .i64) (.pair (.int .i64) .bool))] })]
def cx_match_Line : Cx := mkCx [(38, [c_match_counts])]
theorem eq_match_Line (a : (List Str)) (b : (List Str)) (R : ((p : Pat) × p.V) → Prop) : fnVc (cx_match_Line) an_match_Line 0 Try.f15 I_match_Line [O_match_Line] (a, b, ()) R = match_Line.vc (fun y0 => R ⟨O_match_Line, (y0, ())⟩) a b := by kernel_rfl
theorem fs_match_Line : CtrsOk Try.prog [(38, [c_match_counts])] := ⟨ctr1 ctr_match_counts, trivial⟩
theorem ctr_match_Line : CtrOk Try.prog 15 c_match_Line := ⟨⟨_, Try.func15, by kernel_rfl, by kernel_rfl⟩, by
  intro H v r h
  obtain ⟨a, b, ⟨⟩⟩ := v
  obtain ⟨h, rfl⟩ := h
  exact mk_ok _ (fs_match_Line) (an := an_match_Line) (outs := [O_match_Line]) Try.func15 (by decide) (Eq.mpr (eq_match_Line a b _) (match_Line.ok _ a b h rfl))⟩
end Vs
