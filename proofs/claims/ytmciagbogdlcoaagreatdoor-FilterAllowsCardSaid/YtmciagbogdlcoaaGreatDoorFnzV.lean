/- Functions held against what they tell. Written by a program of this session. -/
import Derived.Test.YtmciagbogdlcoaaGreatDoorPlV
import Derived.Test.YtmciagbogdlcoaaGreatDoorViThree
import Derived.Test.YtmciagbogdlcoaaGreatDoorFnzK
set_option linter.unnecessarySimpa false
set_option linter.unusedVariables false
set_option linter.unusedSectionVars false
set_option linter.unusedSimpArgs false
set_option autoImplicit false
set_option linter.unusedVariables false
set_option maxRecDepth 100000
attribute [local irreducible] Vi.fnVc
namespace Vs
open Go Vi Go.Proofs
abbrev I_utf_long : Pat := { slots := [(0, .ce (.v (.int .u8)))], ents := [] }
abbrev O_utf_long : Pat := { slots := [(0, .ce (.v (.int .i64)))], ents := [] }
def c_utf_long : Ctr := { k0 := 0, inp := I_utf_long, body := fun v => .ret ⟨O_utf_long, ((Sp.longB v.1), ())⟩, ex := 0 }
def an_utf_long : Ann := []
def cx_utf_long : Cx := mkCx []
theorem eq_utf_long (b : Int) (R : ((p : Pat) × p.V) → Prop) : fnVc (cx_utf_long) an_utf_long 0 Tryz.f106 I_utf_long [O_utf_long] (b, ()) R = utf_long.vc (fun y0 => R ⟨O_utf_long, (y0, ())⟩) b := by kernel_rfl
theorem fs_utf_long : CtrsOk Tryz.prog [] gl := trivial
theorem vc_utf_long (H : Nat → Entry) (v : c_utf_long.inp.V) (r : (p : Pat) × p.V) (h : (c_utf_long.body v).Sel H r) : fnVc (cx_utf_long) an_utf_long 0 Tryz.f106 c_utf_long.inp [O_utf_long] v (fun r' => r' = r) := by
  obtain ⟨b, ⟨⟩⟩ := v
  obtain rfl := h
  exact Eq.mpr (eq_utf_long b _) (utf_long.ok _ b  rfl)
theorem ctr_utf_long : CtrOk Tryz.prog 106 c_utf_long gl := ⟨⟨_, Tryz.func106, by kernel_rfl, by kernel_rfl⟩, fun H v r h => mk_ok _ (fs_utf_long) (an := an_utf_long) (outs := [O_utf_long]) Tryz.func106 (by decide) (vc_utf_long H v r h)⟩
abbrev I_utf_First : Pat := { slots := [(0, .ce (.v .str))], ents := [] }
abbrev O_utf_First : Pat := { slots := [(0, .ce (.v (.int .i64))), (1, .ce (.v (.int .i64)))], ents := [] }
def c_utf_First : Ctr := { k0 := 0, inp := I_utf_First, body := fun v => .need (Sp.firstC.pre v.1) (.ret ⟨O_utf_First, ((Sp.firstC v.1).1, (Sp.firstC v.1).2, ())⟩), ex := 0 }
def an_utf_First : Ann := [(8, { slots := [(0, .ce (.v .str)), (4, .ce (.v (.int .i64))), (5, .ce (.v (.int .i64))), (6, .ce (.v (.int .i64)))], ents := [] })]
def cx_utf_First : Cx := mkCx [(106, [c_utf_long]), (94, [c_utf_is])]
theorem eq_utf_First (s : Str) (R : ((p : Pat) × p.V) → Prop) : fnVc (cx_utf_First) an_utf_First 0 Tryz.f96 I_utf_First [O_utf_First] (s, ()) R = utf_First.vc (fun y0 y1 => R ⟨O_utf_First, (y0, y1, ())⟩) s := by kernel_rfl
theorem fs_utf_First : CtrsOk Tryz.prog [(106, [c_utf_long]), (94, [c_utf_is])] gl := ⟨ctr1 (ctr_utf_long), ctr1 (ctr_utf_is), trivial⟩
theorem vc_utf_First (H : Nat → Entry) (v : c_utf_First.inp.V) (r : (p : Pat) × p.V) (h : (c_utf_First.body v).Sel H r) : fnVc (cx_utf_First) an_utf_First 0 Tryz.f96 c_utf_First.inp [O_utf_First] v (fun r' => r' = r) := by
  obtain ⟨s, ⟨⟩⟩ := v
  obtain ⟨h, rfl⟩ := h
  exact Eq.mpr (eq_utf_First s _) (utf_First.ok _ s h rfl)
theorem ctr_utf_First : CtrOk Tryz.prog 96 c_utf_First gl := ⟨⟨_, Tryz.func96, by kernel_rfl, by kernel_rfl⟩, fun H v r h => mk_ok _ (fs_utf_First) (an := an_utf_First) (outs := [O_utf_First]) Tryz.func96 (by decide) (vc_utf_First H v r h)⟩
abbrev I_utf_Clean : Pat := { slots := [(0, .ce (.v .str))], ents := [] }
abbrev O_utf_Clean : Pat := { slots := [(0, .ce (.v .str))], ents := [] }
def c_utf_Clean : Ctr := { k0 := 0, inp := I_utf_Clean, body := fun v => .need (Sp.cleanS.pre v.1) (.ret ⟨O_utf_Clean, ((Sp.cleanS v.1), ())⟩), ex := 0 }
def an_utf_Clean : Ann := [(2, { slots := [(0, .ce (.v .str)), (3, .ce (.ptr 0 0))], ents := [.box 84 [.pn 0, .os 1], .row 5 (.int .u8)] })]
def cx_utf_Clean : Cx := mkCx [(96, [c_utf_First]), (90, [c_utf_Bytes]), (48, [c_strings_Builder_WriteString]), (49, [c_strings_Builder_String])]
theorem eq_utf_Clean (s : Str) (R : ((p : Pat) × p.V) → Prop) : fnVc (cx_utf_Clean) an_utf_Clean 0 Tryz.f91 I_utf_Clean [O_utf_Clean] (s, ()) R = utf_Clean.vc (fun y0 => R ⟨O_utf_Clean, (y0, ())⟩) s := by kernel_rfl
theorem fs_utf_Clean : CtrsOk Tryz.prog [(96, [c_utf_First]), (90, [c_utf_Bytes]), (48, [c_strings_Builder_WriteString]), (49, [c_strings_Builder_String])] gl := ⟨ctr1 (ctr_utf_First), ctr1 (ctr_utf_Bytes), ctr1 (ctr_strings_Builder_WriteString), ctr1 (ctr_strings_Builder_String), trivial⟩
theorem vc_utf_Clean (H : Nat → Entry) (v : c_utf_Clean.inp.V) (r : (p : Pat) × p.V) (h : (c_utf_Clean.body v).Sel H r) : fnVc (cx_utf_Clean) an_utf_Clean 0 Tryz.f91 c_utf_Clean.inp [O_utf_Clean] v (fun r' => r' = r) := by
  obtain ⟨s, ⟨⟩⟩ := v
  obtain ⟨h, rfl⟩ := h
  exact Eq.mpr (eq_utf_Clean s _) (utf_Clean.ok _ s h rfl)
theorem ctr_utf_Clean : CtrOk Tryz.prog 91 c_utf_Clean gl := ⟨⟨_, Tryz.func91, by kernel_rfl, by kernel_rfl⟩, fun H v r h => mk_ok _ (fs_utf_Clean) (an := an_utf_Clean) (outs := [O_utf_Clean]) Tryz.func91 (by decide) (vc_utf_Clean H v r h)⟩
abbrev I_filter_made : Pat := { slots := [(0, .ce (.v .str))], ents := [] }
abbrev O_filter_made : Pat := { slots := [(0, .ce (.v .str))], ents := [] }
def c_filter_made : Ctr := { k0 := 0, inp := I_filter_made, body := fun v => .need (Sp.madeS.pre v.1) (.ret ⟨O_filter_made, ((Sp.madeS v.1), ())⟩), ex := 0 }
def an_filter_made : Ann := []
def cx_filter_made : Cx := mkCx [(89, [c_strings_ReplaceAll]), (90, [c_utf_Bytes]), (91, [c_utf_Clean])]
theorem eq_filter_made (s : Str) (R : ((p : Pat) × p.V) → Prop) : fnVc (cx_filter_made) an_filter_made 0 Tryz.f81 I_filter_made [O_filter_made] (s, ()) R = filter_made.vc (fun y0 => R ⟨O_filter_made, (y0, ())⟩) s := by kernel_rfl
theorem fs_filter_made : CtrsOk Tryz.prog [(89, [c_strings_ReplaceAll]), (90, [c_utf_Bytes]), (91, [c_utf_Clean])] gl := ⟨ctr1 (ctr_strings_ReplaceAll), ctr1 (ctr_utf_Bytes), ctr1 (ctr_utf_Clean), trivial⟩
theorem vc_filter_made (H : Nat → Entry) (v : c_filter_made.inp.V) (r : (p : Pat) × p.V) (h : (c_filter_made.body v).Sel H r) : fnVc (cx_filter_made) an_filter_made 0 Tryz.f81 c_filter_made.inp [O_filter_made] v (fun r' => r' = r) := by
  obtain ⟨s, ⟨⟩⟩ := v
  obtain ⟨h, rfl⟩ := h
  exact Eq.mpr (eq_filter_made s _) (filter_made.ok _ s h rfl)
theorem ctr_filter_made : CtrOk Tryz.prog 81 c_filter_made gl := ⟨⟨_, Tryz.func81, by kernel_rfl, by kernel_rfl⟩, fun H v r h => mk_ok _ (fs_filter_made) (an := an_filter_made) (outs := [O_filter_made]) Tryz.func81 (by decide) (vc_filter_made H v r h)⟩
abbrev I_filter_filter_attrs_1 : Pat := { slots := [(0, .ag (.pair .str .str)), (1, .ce (.ptr 0 0))], ents := [.box 65 [.v .str, .v .str]] }
abbrev O_filter_filter_attrs_1 : Pat := { slots := [(0, .ce (.v .bool))], ents := [.box 65 [.v .str, .v .str]] }
def c_filter_filter_attrs_1 : Ctr := { k0 := 1, inp := I_filter_filter_attrs_1, body := fun v => .ret ⟨O_filter_filter_attrs_1, (Sp.sameN v.1 v.2.1, v.2.1, v.2.2.1, ())⟩, ex := 0 }
def an_filter_filter_attrs_1 : Ann := []
def cx_filter_filter_attrs_1 : Cx := mkCx []
theorem eq_filter_filter_attrs_1 (x : (Str × Str)) (an : Str) (av : Str) (R : ((p : Pat) × p.V) → Prop) : fnVc (cx_filter_filter_attrs_1) an_filter_filter_attrs_1 1 Tryz.f87 I_filter_filter_attrs_1 [O_filter_filter_attrs_1] (x, an, av, ()) R = filter_filter_attrs_1.vc (fun y0 y1 y2 => R ⟨O_filter_filter_attrs_1, (y0, y1, y2, ())⟩) x an av := by kernel_rfl
theorem fs_filter_filter_attrs_1 : CtrsOk Tryz.prog [] gl := trivial
theorem vc_filter_filter_attrs_1 (H : Nat → Entry) (v : c_filter_filter_attrs_1.inp.V) (r : (p : Pat) × p.V) (h : (c_filter_filter_attrs_1.body v).Sel H r) : fnVc (cx_filter_filter_attrs_1) an_filter_filter_attrs_1 1 Tryz.f87 c_filter_filter_attrs_1.inp [O_filter_filter_attrs_1] v (fun r' => r' = r) := by
  obtain ⟨x, an, av, ⟨⟩⟩ := v
  obtain rfl := h
  exact Eq.mpr (eq_filter_filter_attrs_1 x an av _) (filter_filter_attrs_1.ok _ x an av  rfl)
theorem ctr_filter_filter_attrs_1 : CtrOk Tryz.prog 87 c_filter_filter_attrs_1 gl := ⟨⟨_, Tryz.func87, by kernel_rfl, by kernel_rfl⟩, fun H v r h => mk_ok _ (fs_filter_filter_attrs_1) (an := an_filter_filter_attrs_1) (outs := [O_filter_filter_attrs_1]) Tryz.func87 (by decide) (vc_filter_filter_attrs_1 H v r h)⟩
abbrev I_Index_attr1 : Pat := { slots := [(0, .ce (.os 1)), (1, .ce (.fn 87 [] [0]))], ents := [.box 65 [.v .str, .v .str], .row 65 (.pair .str .str)] }
abbrev O_Index_attr1 : Pat := { slots := [(0, .ce (.v (.int .i64)))], ents := [.box 65 [.v .str, .v .str], .row 65 (.pair .str .str)] }
def c_Index_attr1 : Ctr := { k0 := 2, inp := I_Index_attr1, body := fun v => .need (Sp.attrs6 v.2.2.1) (.ret ⟨O_Index_attr1, (Sp.idxSame v.2.2.1 v.1, v.1, v.2.1, v.2.2.1, ())⟩), ex := 0 }
def an_Index_attr1 : Ann := [(2, { slots := [(0, .ce (.os 1)), (1, .ce (.fn 87 [] [0])), (7, .ce (.v (.int .i64))), (8, .ce (.v (.int .i64)))], ents := [.box 65 [.v .str, .v .str], .row 65 (.pair .str .str)] })]
def cx_Index_attr1 : Cx := mkCx [(87, [c_filter_filter_attrs_1])]
theorem eq_Index_attr1 (an : Str) (av : Str) (l : (List (Str × Str))) (R : ((p : Pat) × p.V) → Prop) : fnVc (cx_Index_attr1) an_Index_attr1 2 Tryz.f74 I_Index_attr1 [O_Index_attr1] (an, av, l, ()) R = Index_attr1.vc (fun y0 y1 y2 y3 => R ⟨O_Index_attr1, (y0, y1, y2, y3, ())⟩) an av l := by kernel_rfl
theorem fs_Index_attr1 : CtrsOk Tryz.prog [(87, [c_filter_filter_attrs_1])] gl := ⟨ctr1 (ctr_filter_filter_attrs_1), trivial⟩
theorem vc_Index_attr1 (H : Nat → Entry) (v : c_Index_attr1.inp.V) (r : (p : Pat) × p.V) (h : (c_Index_attr1.body v).Sel H r) : fnVc (cx_Index_attr1) an_Index_attr1 2 Tryz.f74 c_Index_attr1.inp [O_Index_attr1] v (fun r' => r' = r) := by
  obtain ⟨an, av, l, ⟨⟩⟩ := v
  obtain ⟨h, rfl⟩ := h
  exact Eq.mpr (eq_Index_attr1 an av l _) (Index_attr1.ok _ an av l h rfl)
theorem ctr_Index_attr1 : CtrOk Tryz.prog 74 c_Index_attr1 gl := ⟨⟨_, Tryz.func74, by kernel_rfl, by kernel_rfl⟩, fun H v r h => mk_ok _ (fs_Index_attr1) (an := an_Index_attr1) (outs := [O_Index_attr1]) Tryz.func74 (by decide) (vc_Index_attr1 H v r h)⟩
abbrev I_Contains_attr1 : Pat := { slots := [(0, .ce (.os 1)), (1, .ce (.fn 87 [] [0]))], ents := [.box 65 [.v .str, .v .str], .row 65 (.pair .str .str)] }
abbrev O_Contains_attr1 : Pat := { slots := [(0, .ce (.v .bool))], ents := [.box 65 [.v .str, .v .str], .row 65 (.pair .str .str)] }
def c_Contains_attr1 : Ctr := { k0 := 2, inp := I_Contains_attr1, body := fun v => .need (Sp.attrs6 v.2.2.1) (.ret ⟨O_Contains_attr1, (Sp.anySame v.2.2.1 v.1, v.1, v.2.1, v.2.2.1, ())⟩), ex := 0 }
def an_Contains_attr1 : Ann := []
def cx_Contains_attr1 : Cx := mkCx [(74, [c_Index_attr1])]
theorem eq_Contains_attr1 (an : Str) (av : Str) (l : (List (Str × Str))) (R : ((p : Pat) × p.V) → Prop) : fnVc (cx_Contains_attr1) an_Contains_attr1 2 Tryz.f58 I_Contains_attr1 [O_Contains_attr1] (an, av, l, ()) R = Contains_attr1.vc (fun y0 y1 y2 y3 => R ⟨O_Contains_attr1, (y0, y1, y2, y3, ())⟩) an av l := by kernel_rfl
theorem fs_Contains_attr1 : CtrsOk Tryz.prog [(74, [c_Index_attr1])] gl := ⟨ctr1 (ctr_Index_attr1), trivial⟩
theorem vc_Contains_attr1 (H : Nat → Entry) (v : c_Contains_attr1.inp.V) (r : (p : Pat) × p.V) (h : (c_Contains_attr1.body v).Sel H r) : fnVc (cx_Contains_attr1) an_Contains_attr1 2 Tryz.f58 c_Contains_attr1.inp [O_Contains_attr1] v (fun r' => r' = r) := by
  obtain ⟨an, av, l, ⟨⟩⟩ := v
  obtain ⟨h, rfl⟩ := h
  exact Eq.mpr (eq_Contains_attr1 an av l _) (Contains_attr1.ok _ an av l h rfl)
theorem ctr_Contains_attr1 : CtrOk Tryz.prog 58 c_Contains_attr1 gl := ⟨⟨_, Tryz.func58, by kernel_rfl, by kernel_rfl⟩, fun H v r h => mk_ok _ (fs_Contains_attr1) (an := an_Contains_attr1) (outs := [O_Contains_attr1]) Tryz.func58 (by decide) (vc_Contains_attr1 H v r h)⟩
abbrev I_filter_filter_attrs : Pat := { slots := [(0, .ce (.ptr 0 0)), (1, .ag .node)], ents := [.box 75 [.v (.sl (.pair .str (.pair (.int .i64) (.pair (.sl .str) (.sl .str))))), .v (.sl .str), .v (.int .i64), .v (.int .i64), .v (.int .i64), .v (.int .i64), .v (.int .i64), .v (.int .i64)]] }
abbrev O_filter_filter_attrs : Pat := { slots := [(0, .ce (.v (.sl (.pair .str .str))))], ents := [.box 75 [.v (.sl (.pair .str (.pair (.int .i64) (.pair (.sl .str) (.sl .str))))), .v (.sl .str), .v (.int .i64), .v (.int .i64), .v (.int .i64), .v (.int .i64), .v (.int .i64), .v (.int .i64)]] }
def c_filter_filter_attrs : Ctr := { k0 := 1, inp := I_filter_filter_attrs, body := fun v => .need (Sp.fOkN (v.2.1, v.2.2.1, v.2.2.2.1, v.2.2.2.2.1) (v.2.2.2.2.2.1, v.2.2.2.2.2.2.1, v.2.2.2.2.2.2.2.1, v.2.2.2.2.2.2.2.2.1) v.1) (.ret ⟨O_filter_filter_attrs, ((Sp.attrsF (v.2.1, v.2.2.1, v.2.2.2.1, v.2.2.2.2.1) v.1).1, v.2.1, v.2.2.1, v.2.2.2.1, v.2.2.2.2.1, v.2.2.2.2.2.1, v.2.2.2.2.2.2.1, @HAdd.hAdd Int Int Int _ (v.2.2.2.2.2.2.2.1) ((Sp.attrsF (v.2.1, v.2.2.1, v.2.2.2.1, v.2.2.2.2.1) v.1).2), v.2.2.2.2.2.2.2.2.1, ())⟩), ex := 0 }
def an_filter_filter_attrs : Ann := [(3, { slots := [(0, .ce (.ptr 0 0)), (3, .ce (.ptr 1 0)), (5, .ce (.os 2)), (10, .ce (.v (.sl (.pair .str .str)))), (11, .ce (.v (.int .i64))), (12, .ce (.v (.int .i64)))], ents := [.box 75 [.v (.sl (.pair .str (.pair (.int .i64) (.pair (.sl .str) (.sl .str))))), .v (.sl .str), .v (.int .i64), .v (.int .i64), .v (.int .i64), .v (.int .i64), .v (.int .i64), .v (.int .i64)], .box 55 [.v (.int .i64), .v (.int .i64), .v .str, .v (.sl (.pair .str .str)), .v .str, .v (.sl .node)], .row 65 (.pair .str .str)] })]
def cx_filter_filter_attrs : Cx := mkCx [(58, [c_Contains_attr1]), (88, [c_policy_Stays]), (81, [c_filter_made]), (87, [c_filter_filter_attrs_1])]
theorem eq_filter_filter_attrs (n : Vi.Node) (rules : (List (Str × (Int × ((List Str) × (List Str)))))) (schemes : (List Str)) (others : Int) (strange : Int) (dr : Int) (op : Int) (at_ : Int) (ot : Int) (R : ((p : Pat) × p.V) → Prop) : fnVc (cx_filter_filter_attrs) an_filter_filter_attrs 1 Tryz.f80 I_filter_filter_attrs [O_filter_filter_attrs] (n, rules, schemes, others, strange, dr, op, at_, ot, ()) R = filter_filter_attrs.vc (fun y0 y1 y2 y3 y4 y5 y6 y7 y8 => R ⟨O_filter_filter_attrs, (y0, y1, y2, y3, y4, y5, y6, y7, y8, ())⟩) n rules schemes others strange dr op at_ ot := by kernel_rfl
theorem fs_filter_filter_attrs : CtrsOk Tryz.prog [(58, [c_Contains_attr1]), (88, [c_policy_Stays]), (81, [c_filter_made]), (87, [c_filter_filter_attrs_1])] gl := ⟨ctr1 (ctr_Contains_attr1), ctr1 (ctr_policy_Stays), ctr1 (ctr_filter_made), ctr1 (ctr_filter_filter_attrs_1), trivial⟩
theorem vc_filter_filter_attrs (H : Nat → Entry) (v : c_filter_filter_attrs.inp.V) (r : (p : Pat) × p.V) (h : (c_filter_filter_attrs.body v).Sel H r) : fnVc (cx_filter_filter_attrs) an_filter_filter_attrs 1 Tryz.f80 c_filter_filter_attrs.inp [O_filter_filter_attrs] v (fun r' => r' = r) := by
  obtain ⟨n, rules, schemes, others, strange, dr, op, at_, ot, ⟨⟩⟩ := v
  obtain ⟨h, rfl⟩ := h
  exact Eq.mpr (eq_filter_filter_attrs n rules schemes others strange dr op at_ ot _) (filter_filter_attrs.ok _ n rules schemes others strange dr op at_ ot h rfl)
theorem ctr_filter_filter_attrs : CtrOk Tryz.prog 80 c_filter_filter_attrs gl := ⟨⟨_, Tryz.func80, by kernel_rfl, by kernel_rfl⟩, fun H v r h => mk_ok _ (fs_filter_filter_attrs) (an := an_filter_filter_attrs) (outs := [O_filter_filter_attrs]) Tryz.func80 (by decide) (vc_filter_filter_attrs H v r h)⟩
abbrev I_filter_filter_text : Pat := { slots := [(0, .ce (.ptr 0 0)), (1, .ag .node)], ents := [.box 75 [.v (.sl (.pair .str (.pair (.int .i64) (.pair (.sl .str) (.sl .str))))), .v (.sl .str), .v (.int .i64), .v (.int .i64), .v (.int .i64), .v (.int .i64), .v (.int .i64), .v (.int .i64)]] }
abbrev O_filter_filter_text : Pat := { slots := [(0, .ce (.v (.sl .node)))], ents := [.box 75 [.v (.sl (.pair .str (.pair (.int .i64) (.pair (.sl .str) (.sl .str))))), .v (.sl .str), .v (.int .i64), .v (.int .i64), .v (.int .i64), .v (.int .i64), .v (.int .i64), .v (.int .i64)]] }
def c_filter_filter_text : Ctr := { k0 := 1, inp := I_filter_filter_text, body := fun v => .need (Sp.textF.pre v.1) (.ret ⟨O_filter_filter_text, (Sp.textF v.1, v.2.1, v.2.2.1, v.2.2.2.1, v.2.2.2.2.1, v.2.2.2.2.2.1, v.2.2.2.2.2.2.1, v.2.2.2.2.2.2.2.1, v.2.2.2.2.2.2.2.2.1, ())⟩), ex := 0 }
def an_filter_filter_text : Ann := []
def cx_filter_filter_text : Cx := mkCx [(81, [c_filter_made])]
theorem eq_filter_filter_text (n : Vi.Node) (rules : (List (Str × (Int × ((List Str) × (List Str)))))) (schemes : (List Str)) (others : Int) (strange : Int) (dr : Int) (op : Int) (at_ : Int) (ot : Int) (R : ((p : Pat) × p.V) → Prop) : fnVc (cx_filter_filter_text) an_filter_filter_text 1 Tryz.f72 I_filter_filter_text [O_filter_filter_text] (n, rules, schemes, others, strange, dr, op, at_, ot, ()) R = filter_filter_text.vc (fun y0 y1 y2 y3 y4 y5 y6 y7 y8 => R ⟨O_filter_filter_text, (y0, y1, y2, y3, y4, y5, y6, y7, y8, ())⟩) n rules schemes others strange dr op at_ ot := by kernel_rfl
theorem fs_filter_filter_text : CtrsOk Tryz.prog [(81, [c_filter_made])] gl := ⟨ctr1 (ctr_filter_made), trivial⟩
theorem vc_filter_filter_text (H : Nat → Entry) (v : c_filter_filter_text.inp.V) (r : (p : Pat) × p.V) (h : (c_filter_filter_text.body v).Sel H r) : fnVc (cx_filter_filter_text) an_filter_filter_text 1 Tryz.f72 c_filter_filter_text.inp [O_filter_filter_text] v (fun r' => r' = r) := by
  obtain ⟨n, rules, schemes, others, strange, dr, op, at_, ot, ⟨⟩⟩ := v
  obtain ⟨h, rfl⟩ := h
  exact Eq.mpr (eq_filter_filter_text n rules schemes others strange dr op at_ ot _) (filter_filter_text.ok _ n rules schemes others strange dr op at_ ot h rfl)
theorem ctr_filter_filter_text : CtrOk Tryz.prog 72 c_filter_filter_text gl := ⟨⟨_, Tryz.func72, by kernel_rfl, by kernel_rfl⟩, fun H v r h => mk_ok _ (fs_filter_filter_text) (an := an_filter_filter_text) (outs := [O_filter_filter_text]) Tryz.func72 (by decide) (vc_filter_filter_text H v r h)⟩
abbrev I_filter_filter_other : Pat := { slots := [(0, .ce (.ptr 0 0)), (1, .ag .node)], ents := [.box 75 [.v (.sl (.pair .str (.pair (.int .i64) (.pair (.sl .str) (.sl .str))))), .v (.sl .str), .v (.int .i64), .v (.int .i64), .v (.int .i64), .v (.int .i64), .v (.int .i64), .v (.int .i64)]] }
abbrev O_filter_filter_other : Pat := { slots := [(0, .ce (.v (.sl .node)))], ents := [.box 75 [.v (.sl (.pair .str (.pair (.int .i64) (.pair (.sl .str) (.sl .str))))), .v (.sl .str), .v (.int .i64), .v (.int .i64), .v (.int .i64), .v (.int .i64), .v (.int .i64), .v (.int .i64)]] }
def c_filter_filter_other : Ctr := { k0 := 1, inp := I_filter_filter_other, body := fun v => .need (Sp.lostOk (v.2.2.2.2.2.1, v.2.2.2.2.2.2.1, v.2.2.2.2.2.2.2.1, v.2.2.2.2.2.2.2.2.1)) (.ret ⟨O_filter_filter_other, (([] : List Vi.Node), v.2.1, v.2.2.1, v.2.2.2.1, v.2.2.2.2.1, v.2.2.2.2.2.1, v.2.2.2.2.2.2.1, v.2.2.2.2.2.2.2.1, @HAdd.hAdd Int Int Int _ (v.2.2.2.2.2.2.2.2.1) 1, ())⟩), ex := 0 }
def an_filter_filter_other : Ann := []
def cx_filter_filter_other : Cx := mkCx []
theorem eq_filter_filter_other (n : Vi.Node) (rules : (List (Str × (Int × ((List Str) × (List Str)))))) (schemes : (List Str)) (others : Int) (strange : Int) (dr : Int) (op : Int) (at_ : Int) (ot : Int) (R : ((p : Pat) × p.V) → Prop) : fnVc (cx_filter_filter_other) an_filter_filter_other 1 Tryz.f73 I_filter_filter_other [O_filter_filter_other] (n, rules, schemes, others, strange, dr, op, at_, ot, ()) R = filter_filter_other.vc (fun y0 y1 y2 y3 y4 y5 y6 y7 y8 => R ⟨O_filter_filter_other, (y0, y1, y2, y3, y4, y5, y6, y7, y8, ())⟩) n rules schemes others strange dr op at_ ot := by kernel_rfl
theorem fs_filter_filter_other : CtrsOk Tryz.prog [] gl := trivial
theorem vc_filter_filter_other (H : Nat → Entry) (v : c_filter_filter_other.inp.V) (r : (p : Pat) × p.V) (h : (c_filter_filter_other.body v).Sel H r) : fnVc (cx_filter_filter_other) an_filter_filter_other 1 Tryz.f73 c_filter_filter_other.inp [O_filter_filter_other] v (fun r' => r' = r) := by
  obtain ⟨n, rules, schemes, others, strange, dr, op, at_, ot, ⟨⟩⟩ := v
  obtain ⟨h, rfl⟩ := h
  exact Eq.mpr (eq_filter_filter_other n rules schemes others strange dr op at_ ot _) (filter_filter_other.ok _ n rules schemes others strange dr op at_ ot h rfl)
theorem ctr_filter_filter_other : CtrOk Tryz.prog 73 c_filter_filter_other gl := ⟨⟨_, Tryz.func73, by kernel_rfl, by kernel_rfl⟩, fun H v r h => mk_ok _ (fs_filter_filter_other) (an := an_filter_filter_other) (outs := [O_filter_filter_other]) Tryz.func73 (by decide) (vc_filter_filter_other H v r h)⟩
abbrev I_filter_filter_how : Pat := { slots := [(0, .ce (.ptr 0 0)), (1, .ag .node)], ents := [.box 75 [.v (.sl (.pair .str (.pair (.int .i64) (.pair (.sl .str) (.sl .str))))), .v (.sl .str), .v (.int .i64), .v (.int .i64), .v (.int .i64), .v (.int .i64), .v (.int .i64), .v (.int .i64)]] }
abbrev O_filter_filter_how_0 : Pat := { slots := [(0, .ce (.fn 71 [0] []))], ents := [.box 75 [.v (.sl (.pair .str (.pair (.int .i64) (.pair (.sl .str) (.sl .str))))), .v (.sl .str), .v (.int .i64), .v (.int .i64), .v (.int .i64), .v (.int .i64), .v (.int .i64), .v (.int .i64)]] }
abbrev O_filter_filter_how_1 : Pat := { slots := [(0, .ce (.fn 72 [0] []))], ents := [.box 75 [.v (.sl (.pair .str (.pair (.int .i64) (.pair (.sl .str) (.sl .str))))), .v (.sl .str), .v (.int .i64), .v (.int .i64), .v (.int .i64), .v (.int .i64), .v (.int .i64), .v (.int .i64)]] }
abbrev O_filter_filter_how_2 : Pat := { slots := [(0, .ce (.fn 73 [0] []))], ents := [.box 75 [.v (.sl (.pair .str (.pair (.int .i64) (.pair (.sl .str) (.sl .str))))), .v (.sl .str), .v (.int .i64), .v (.int .i64), .v (.int .i64), .v (.int .i64), .v (.int .i64), .v (.int .i64)]] }
def c_filter_filter_how : Ctr := { k0 := 1, inp := I_filter_filter_how, body := fun v => (.br (decide (v.1.kind = 1)) (.ret ⟨O_filter_filter_how_0, (v.2.1, v.2.2.1, v.2.2.2.1, v.2.2.2.2.1, v.2.2.2.2.2.1, v.2.2.2.2.2.2.1, v.2.2.2.2.2.2.2.1, v.2.2.2.2.2.2.2.2.1, ())⟩) (.br (decide (v.1.kind = 2)) (.ret ⟨O_filter_filter_how_1, (v.2.1, v.2.2.1, v.2.2.2.1, v.2.2.2.2.1, v.2.2.2.2.2.1, v.2.2.2.2.2.2.1, v.2.2.2.2.2.2.2.1, v.2.2.2.2.2.2.2.2.1, ())⟩) (.ret ⟨O_filter_filter_how_2, (v.2.1, v.2.2.1, v.2.2.2.1, v.2.2.2.2.1, v.2.2.2.2.2.1, v.2.2.2.2.2.2.1, v.2.2.2.2.2.2.2.1, v.2.2.2.2.2.2.2.2.1, ())⟩))), ex := 0 }
def an_filter_filter_how : Ann := []
def cx_filter_filter_how : Cx := mkCx []
theorem eq_filter_filter_how (n : Vi.Node) (rules : (List (Str × (Int × ((List Str) × (List Str)))))) (schemes : (List Str)) (others : Int) (strange : Int) (dr : Int) (op : Int) (at_ : Int) (ot : Int) (R : ((p : Pat) × p.V) → Prop) : fnVc cx_filter_filter_how an_filter_filter_how 1 Tryz.f57 I_filter_filter_how [O_filter_filter_how_0, O_filter_filter_how_1, O_filter_filter_how_2] (n, rules, schemes, others, strange, dr, op, at_, ot, ()) R = filter_filter_how.vc (fun y0 y1 y2 y3 y4 y5 y6 y7 => R ⟨O_filter_filter_how_0, (y0, y1, y2, y3, y4, y5, y6, y7, ())⟩) (fun y0 y1 y2 y3 y4 y5 y6 y7 => R ⟨O_filter_filter_how_1, (y0, y1, y2, y3, y4, y5, y6, y7, ())⟩) (fun y0 y1 y2 y3 y4 y5 y6 y7 => R ⟨O_filter_filter_how_2, (y0, y1, y2, y3, y4, y5, y6, y7, ())⟩) n rules schemes others strange dr op at_ ot := by kernel_rfl
theorem fs_filter_filter_how : CtrsOk Tryz.prog [] gl := trivial
theorem vc_filter_filter_how (H : Nat → Entry) (v : c_filter_filter_how.inp.V) (r : (p : Pat) × p.V) (h : (c_filter_filter_how.body v).Sel H r) : fnVc cx_filter_filter_how an_filter_filter_how 1 Tryz.f57 c_filter_filter_how.inp [O_filter_filter_how_0, O_filter_filter_how_1, O_filter_filter_how_2] v (fun r' => r' = r) := by
  obtain ⟨n, rules, schemes, others, strange, dr, op, at_, ot, ⟨⟩⟩ := v
  rcases sel_br h with ⟨hb0, h⟩ | ⟨hb0, h⟩
  · subst h; exact Eq.mpr (eq_filter_filter_how n rules schemes others strange dr op at_ ot _) (filter_filter_how.ok _ _ _ n rules schemes others strange dr op at_ ot  (fun _ => rfl) (fun e0 e1 => absurd (e0.symm.trans hb0) (by decide)) (fun e0 e1 => absurd (e0.symm.trans hb0) (by decide)))
  rcases sel_br h with ⟨hb1, h⟩ | ⟨hb1, h⟩
  · subst h; exact Eq.mpr (eq_filter_filter_how n rules schemes others strange dr op at_ ot _) (filter_filter_how.ok _ _ _ n rules schemes others strange dr op at_ ot  (fun e0 => absurd (e0.symm.trans hb0) (by decide)) (fun _ _ => rfl) (fun e0 e1 => absurd (e1.symm.trans hb1) (by decide)))
  subst h; exact Eq.mpr (eq_filter_filter_how n rules schemes others strange dr op at_ ot _) (filter_filter_how.ok _ _ _ n rules schemes others strange dr op at_ ot  (fun e0 => absurd (e0.symm.trans hb0) (by decide)) (fun e0 e1 => absurd (e1.symm.trans hb1) (by decide)) (fun _ _ => rfl))

theorem ctr_filter_filter_how : CtrOk Tryz.prog 57 c_filter_filter_how gl := ⟨⟨_, Tryz.func57, by kernel_rfl, by kernel_rfl⟩, fun H v r h => mk_ok _ fs_filter_filter_how (an := an_filter_filter_how) (outs := [O_filter_filter_how_0, O_filter_filter_how_1, O_filter_filter_how_2]) Tryz.func57 (by decide) (vc_filter_filter_how H v r h)⟩
abbrev I_filter_filter_element : Pat := { slots := [(0, .ce (.ptr 0 0)), (1, .ag .node)], ents := [.box 75 [.v (.sl (.pair .str (.pair (.int .i64) (.pair (.sl .str) (.sl .str))))), .v (.sl .str), .v (.int .i64), .v (.int .i64), .v (.int .i64), .v (.int .i64), .v (.int .i64), .v (.int .i64)]] }
abbrev O_filter_filter_element : Pat := { slots := [(0, .ce (.v (.sl .node)))], ents := [.box 75 [.v (.sl (.pair .str (.pair (.int .i64) (.pair (.sl .str) (.sl .str))))), .v (.sl .str), .v (.int .i64), .v (.int .i64), .v (.int .i64), .v (.int .i64), .v (.int .i64), .v (.int .i64)]] }
def r_filter_filter_element (nn : Nat) : Ctr := { k0 := 1, inp := I_filter_filter_element, body := fun v => .need (Sp.fOkE (v.2.1, v.2.2.1, v.2.2.2.1, v.2.2.2.2.1) (v.2.2.2.2.2.1, v.2.2.2.2.2.2.1, v.2.2.2.2.2.2.2.1, v.2.2.2.2.2.2.2.2.1) v.1 ∧ Sp.mEl v.1 v.2.1 v.2.2.1 v.2.2.2.1 v.2.2.2.2.1 v.2.2.2.2.2.1 v.2.2.2.2.2.2.1 v.2.2.2.2.2.2.2.1 v.2.2.2.2.2.2.2.2.1 < nn) (.ret ⟨O_filter_filter_element, (Sp.elF (v.2.1, v.2.2.1, v.2.2.2.1, v.2.2.2.2.1) v.1, v.2.1, v.2.2.1, v.2.2.2.1, v.2.2.2.2.1, (Sp.lostN (v.2.1, v.2.2.1, v.2.2.2.1, v.2.2.2.2.1) (v.2.2.2.2.2.1, v.2.2.2.2.2.2.1, v.2.2.2.2.2.2.2.1, v.2.2.2.2.2.2.2.2.1) v.1).1, (Sp.lostN (v.2.1, v.2.2.1, v.2.2.2.1, v.2.2.2.2.1) (v.2.2.2.2.2.1, v.2.2.2.2.2.2.1, v.2.2.2.2.2.2.2.1, v.2.2.2.2.2.2.2.2.1) v.1).2.1, (Sp.lostN (v.2.1, v.2.2.1, v.2.2.2.1, v.2.2.2.2.1) (v.2.2.2.2.2.1, v.2.2.2.2.2.2.1, v.2.2.2.2.2.2.2.1, v.2.2.2.2.2.2.2.2.1) v.1).2.2.1, (Sp.lostN (v.2.1, v.2.2.1, v.2.2.2.1, v.2.2.2.2.1) (v.2.2.2.2.2.1, v.2.2.2.2.2.2.1, v.2.2.2.2.2.2.2.1, v.2.2.2.2.2.2.2.2.1) v.1).2.2.2, ())⟩), ex := 0 }
def an_filter_filter_element : Ann := []
abbrev I_filter_filter_nodes : Pat := { slots := [(0, .ce (.ptr 0 0)), (1, .ce (.v (.sl .node)))], ents := [.box 75 [.v (.sl (.pair .str (.pair (.int .i64) (.pair (.sl .str) (.sl .str))))), .v (.sl .str), .v (.int .i64), .v (.int .i64), .v (.int .i64), .v (.int .i64), .v (.int .i64), .v (.int .i64)]] }
abbrev O_filter_filter_nodes : Pat := { slots := [(0, .ce (.v (.sl .node)))], ents := [.box 75 [.v (.sl (.pair .str (.pair (.int .i64) (.pair (.sl .str) (.sl .str))))), .v (.sl .str), .v (.int .i64), .v (.int .i64), .v (.int .i64), .v (.int .i64), .v (.int .i64), .v (.int .i64)]] }
def r_filter_filter_nodes (nn : Nat) : Ctr := { k0 := 1, inp := I_filter_filter_nodes, body := fun v => .need (Sp.fOkL (v.2.1, v.2.2.1, v.2.2.2.1, v.2.2.2.2.1) (v.2.2.2.2.2.1, v.2.2.2.2.2.2.1, v.2.2.2.2.2.2.2.1, v.2.2.2.2.2.2.2.2.1) v.1 ∧ Sp.mNs2 v.1 v.2.1 v.2.2.1 v.2.2.2.1 v.2.2.2.2.1 v.2.2.2.2.2.1 v.2.2.2.2.2.2.1 v.2.2.2.2.2.2.2.1 v.2.2.2.2.2.2.2.2.1 < nn) (.ret ⟨O_filter_filter_nodes, (Sp.nsF (v.2.1, v.2.2.1, v.2.2.2.1, v.2.2.2.2.1) v.1, v.2.1, v.2.2.1, v.2.2.2.1, v.2.2.2.2.1, (Sp.lostL (v.2.1, v.2.2.1, v.2.2.2.1, v.2.2.2.2.1) (v.2.2.2.2.2.1, v.2.2.2.2.2.2.1, v.2.2.2.2.2.2.2.1, v.2.2.2.2.2.2.2.2.1) v.1).1, (Sp.lostL (v.2.1, v.2.2.1, v.2.2.2.1, v.2.2.2.2.1) (v.2.2.2.2.2.1, v.2.2.2.2.2.2.1, v.2.2.2.2.2.2.2.1, v.2.2.2.2.2.2.2.2.1) v.1).2.1, (Sp.lostL (v.2.1, v.2.2.1, v.2.2.2.1, v.2.2.2.2.1) (v.2.2.2.2.2.1, v.2.2.2.2.2.2.1, v.2.2.2.2.2.2.2.1, v.2.2.2.2.2.2.2.2.1) v.1).2.2.1, (Sp.lostL (v.2.1, v.2.2.1, v.2.2.2.1, v.2.2.2.2.1) (v.2.2.2.2.2.1, v.2.2.2.2.2.2.1, v.2.2.2.2.2.2.2.1, v.2.2.2.2.2.2.2.2.1) v.1).2.2.2, ())⟩), ex := 0 }
def c_filter_filter_nodes : Ctr := { k0 := 1, inp := I_filter_filter_nodes, body := fun v => .need (Sp.fOkL (v.2.1, v.2.2.1, v.2.2.2.1, v.2.2.2.2.1) (v.2.2.2.2.2.1, v.2.2.2.2.2.2.1, v.2.2.2.2.2.2.2.1, v.2.2.2.2.2.2.2.2.1) v.1) (.ret ⟨O_filter_filter_nodes, (Sp.nsF (v.2.1, v.2.2.1, v.2.2.2.1, v.2.2.2.2.1) v.1, v.2.1, v.2.2.1, v.2.2.2.1, v.2.2.2.2.1, (Sp.lostL (v.2.1, v.2.2.1, v.2.2.2.1, v.2.2.2.2.1) (v.2.2.2.2.2.1, v.2.2.2.2.2.2.1, v.2.2.2.2.2.2.2.1, v.2.2.2.2.2.2.2.2.1) v.1).1, (Sp.lostL (v.2.1, v.2.2.1, v.2.2.2.1, v.2.2.2.2.1) (v.2.2.2.2.2.1, v.2.2.2.2.2.2.1, v.2.2.2.2.2.2.2.1, v.2.2.2.2.2.2.2.2.1) v.1).2.1, (Sp.lostL (v.2.1, v.2.2.1, v.2.2.2.1, v.2.2.2.2.1) (v.2.2.2.2.2.1, v.2.2.2.2.2.2.1, v.2.2.2.2.2.2.2.1, v.2.2.2.2.2.2.2.2.1) v.1).2.2.1, (Sp.lostL (v.2.1, v.2.2.1, v.2.2.2.1, v.2.2.2.2.1) (v.2.2.2.2.2.1, v.2.2.2.2.2.2.1, v.2.2.2.2.2.2.2.1, v.2.2.2.2.2.2.2.2.1) v.1).2.2.2, ())⟩), ex := 0 }
def an_filter_filter_nodes : Ann := [(3, { slots := [(0, .ce (.ptr 0 0)), (5, .ce (.os 1)), (11, .ce (.v (.sl .node))), (12, .ce (.v (.int .i64))), (13, .ce (.v (.int .i64)))], ents := [.box 75 [.v (.sl (.pair .str (.pair (.int .i64) (.pair (.sl .str) (.sl .str))))), .v (.sl .str), .v (.int .i64), .v (.int .i64), .v (.int .i64), .v (.int .i64), .v (.int .i64), .v (.int .i64)], .row 55 .node] }), (6, { slots := [(0, .ce (.ptr 0 0)), (5, .ce (.os 1)), (11, .ce (.v (.sl .node))), (12, .ce (.v (.int .i64))), (13, .ce (.v (.int .i64))), (21, .ce (.v (.sl .node))), (22, .ce (.v (.int .i64))), (23, .ce (.v (.int .i64)))], ents := [.box 75 [.v (.sl (.pair .str (.pair (.int .i64) (.pair (.sl .str) (.sl .str))))), .v (.sl .str), .v (.int .i64), .v (.int .i64), .v (.int .i64), .v (.int .i64), .v (.int .i64), .v (.int .i64)], .row 55 .node] })]
def cx_filter_filter_element (nn : Nat) : Cx := mkCx [(79, [c_policy_Act]), (39, [r_filter_filter_nodes nn]), (80, [c_filter_filter_attrs]), (27, [c_tags_Void])]
def cx_filter_filter_nodes (nn : Nat) : Cx := mkCx [(57, [c_filter_filter_how]), (71, [r_filter_filter_element nn]), (72, [c_filter_filter_text]), (73, [c_filter_filter_other])]
theorem eq_filter_filter_element (nn : Nat) (n : Vi.Node) (rules : (List (Str × (Int × ((List Str) × (List Str)))))) (schemes : (List Str)) (others : Int) (strange : Int) (dr : Int) (op : Int) (at_ : Int) (ot : Int) (R : ((p : Pat) × p.V) → Prop) : fnVc (cx_filter_filter_element nn) an_filter_filter_element 1 Tryz.f71 I_filter_filter_element [O_filter_filter_element] (n, rules, schemes, others, strange, dr, op, at_, ot, ()) R = filter_filter_element.vc (fun y0 y1 y2 y3 y4 y5 y6 y7 y8 => R ⟨O_filter_filter_element, (y0, y1, y2, y3, y4, y5, y6, y7, y8, ())⟩) nn n rules schemes others strange dr op at_ ot := by kernel_rfl
theorem fs_filter_filter_element (nn : Nat) (ih_filter_filter_nodes : CtrOk Tryz.prog 39 (r_filter_filter_nodes nn) gl) : CtrsOk Tryz.prog [(79, [c_policy_Act]), (39, [r_filter_filter_nodes nn]), (80, [c_filter_filter_attrs]), (27, [c_tags_Void])] gl := ⟨(ctr1 (ctr_policy_Act)), (ctr1 ih_filter_filter_nodes), (ctr1 (ctr_filter_filter_attrs)), (ctr1 (ctr_tags_Void)), trivial⟩
theorem eq_filter_filter_nodes (nn : Nat) (l : (List Vi.Node)) (rules : (List (Str × (Int × ((List Str) × (List Str)))))) (schemes : (List Str)) (others : Int) (strange : Int) (dr : Int) (op : Int) (at_ : Int) (ot : Int) (R : ((p : Pat) × p.V) → Prop) : fnVc (cx_filter_filter_nodes nn) an_filter_filter_nodes 1 Tryz.f39 I_filter_filter_nodes [O_filter_filter_nodes] (l, rules, schemes, others, strange, dr, op, at_, ot, ()) R = filter_filter_nodes.vc (fun y0 y1 y2 y3 y4 y5 y6 y7 y8 => R ⟨O_filter_filter_nodes, (y0, y1, y2, y3, y4, y5, y6, y7, y8, ())⟩) nn l rules schemes others strange dr op at_ ot := by kernel_rfl
theorem fs_filter_filter_nodes (nn : Nat) (ih_filter_filter_element : CtrOk Tryz.prog 71 (r_filter_filter_element nn) gl) : CtrsOk Tryz.prog [(57, [c_filter_filter_how]), (71, [r_filter_filter_element nn]), (72, [c_filter_filter_text]), (73, [c_filter_filter_other])] gl := ⟨(ctr1 (ctr_filter_filter_how)), (ctr1 ih_filter_filter_element), (ctr1 (ctr_filter_filter_text)), (ctr1 (ctr_filter_filter_other)), trivial⟩
theorem grp_fl (nn : Nat) : CtrOk Tryz.prog 71 (r_filter_filter_element nn) gl ∧ CtrOk Tryz.prog 39 (r_filter_filter_nodes nn) gl := by
  induction nn with
  | zero => exact ⟨⟨⟨_, Tryz.func71, by kernel_rfl, by kernel_rfl⟩, fun H v r h => absurd h.1.2 (Nat.not_lt_zero _)⟩, ⟨⟨_, Tryz.func39, by kernel_rfl, by kernel_rfl⟩, fun H v r h => absurd h.1.2 (Nat.not_lt_zero _)⟩⟩
  | succ nn ih =>
  obtain ⟨ih_filter_filter_element, ih_filter_filter_nodes⟩ := ih
  refine ⟨⟨⟨_, Tryz.func71, by kernel_rfl, by kernel_rfl⟩, ?_⟩, ⟨⟨_, Tryz.func39, by kernel_rfl, by kernel_rfl⟩, ?_⟩⟩
  · intro H v r h
    obtain ⟨n, rules, schemes, others, strange, dr, op, at_, ot, ⟨⟩⟩ := v
    obtain ⟨h, rfl⟩ := h
    exact mk_ok _ (fs_filter_filter_element nn ih_filter_filter_nodes) (an := an_filter_filter_element) (outs := [O_filter_filter_element]) Tryz.func71 (Nat.le_of_ble_eq_true rfl) (Eq.mpr (eq_filter_filter_element nn n rules schemes others strange dr op at_ ot _) (filter_filter_element.ok nn _ n rules schemes others strange dr op at_ ot h rfl))
  · intro H v r h
    obtain ⟨l, rules, schemes, others, strange, dr, op, at_, ot, ⟨⟩⟩ := v
    obtain ⟨h, rfl⟩ := h
    exact mk_ok _ (fs_filter_filter_nodes nn ih_filter_filter_element) (an := an_filter_filter_nodes) (outs := [O_filter_filter_nodes]) Tryz.func39 (Nat.le_of_ble_eq_true rfl) (Eq.mpr (eq_filter_filter_nodes nn l rules schemes others strange dr op at_ ot _) (filter_filter_nodes.ok nn _ l rules schemes others strange dr op at_ ot h rfl))

theorem ctr_filter_filter_nodes : CtrOk Tryz.prog 39 c_filter_filter_nodes gl := ⟨⟨_, Tryz.func39, by kernel_rfl, by kernel_rfl⟩, fun H v r h => ((grp_fl (Sp.mNs2 v.1 v.2.1 v.2.2.1 v.2.2.2.1 v.2.2.2.2.1 v.2.2.2.2.2.1 v.2.2.2.2.2.2.1 v.2.2.2.2.2.2.2.1 v.2.2.2.2.2.2.2.2.1 + 1)).2.2 H v r ⟨⟨h.1, Nat.lt_succ_self _⟩, h.2⟩).body⟩
abbrev I_filter_run : Pat := { slots := [(0, .ag (.pair (.sl (.pair .str (.pair (.int .i64) (.pair (.sl .str) (.sl .str))))) (.pair (.sl .str) (.pair (.int .i64) (.int .i64))))), (1, .ce (.v (.sl .node)))], ents := [] }
abbrev O_filter_run : Pat := { slots := [(0, .ce (.v (.sl .node))), (1, .ag (.pair (.int .i64) (.pair (.int .i64) (.pair (.int .i64) (.int .i64))))), (2, .ce (.v (.int .i64)))], ents := [] }
def c_filter_run : Ctr := { k0 := 0, inp := I_filter_run, body := fun v => .need (Sp.runOk v.1 v.2.1) (.ret ⟨O_filter_run, ((Sp.runF v.1 v.2.1).1, (Sp.runF v.1 v.2.1).2.1, (Sp.runF v.1 v.2.1).2.2, ())⟩), ex := 0 }
def an_filter_run : Ann := []
def cx_filter_run : Cx := mkCx [(7, [c_policy_Check]), (39, [c_filter_filter_nodes])]
theorem eq_filter_run (p : ((List (Str × (Int × ((List Str) × (List Str))))) × ((List Str) × (Int × Int)))) (l : (List Vi.Node)) (R : ((p : Pat) × p.V) → Prop) : fnVc (cx_filter_run) an_filter_run 0 Tryz.f21 I_filter_run [O_filter_run] (p, l, ()) R = filter_run.vc (fun y0 y1 y2 => R ⟨O_filter_run, (y0, y1, y2, ())⟩) p l := by kernel_rfl
theorem fs_filter_run : CtrsOk Tryz.prog [(7, [c_policy_Check]), (39, [c_filter_filter_nodes])] gl := ⟨ctr1 (ctr_policy_Check), ctr1 (ctr_filter_filter_nodes), trivial⟩
theorem vc_filter_run (H : Nat → Entry) (v : c_filter_run.inp.V) (r : (p : Pat) × p.V) (h : (c_filter_run.body v).Sel H r) : fnVc (cx_filter_run) an_filter_run 0 Tryz.f21 c_filter_run.inp [O_filter_run] v (fun r' => r' = r) := by
  obtain ⟨p, l, ⟨⟩⟩ := v
  obtain ⟨h, rfl⟩ := h
  exact Eq.mpr (eq_filter_run p l _) (filter_run.ok _ p l h rfl)
theorem ctr_filter_run : CtrOk Tryz.prog 21 c_filter_run gl := ⟨⟨_, Tryz.func21, by kernel_rfl, by kernel_rfl⟩, fun H v r h => mk_ok _ (fs_filter_run) (an := an_filter_run) (outs := [O_filter_run]) Tryz.func21 (by decide) (vc_filter_run H v r h)⟩
abbrev I_filter_Nodes : Pat := { slots := [(0, .ag (.pair (.sl (.pair .str (.pair (.int .i64) (.pair (.sl .str) (.sl .str))))) (.pair (.sl .str) (.pair (.int .i64) (.int .i64))))), (1, .ce (.v (.sl .node)))], ents := [] }
abbrev O_filter_Nodes : Pat := { slots := [(0, .ce (.v (.sl .node))), (1, .ce (.v (.int .i64)))], ents := [] }
def c_filter_Nodes : Ctr := { k0 := 0, inp := I_filter_Nodes, body := fun v => .need (Sp.runOk v.1 v.2.1) (.ret ⟨O_filter_Nodes, ((Sp.runF v.1 v.2.1).1, (Sp.runF v.1 v.2.1).2.2, ())⟩), ex := 0 }
def an_filter_Nodes : Ann := []
def cx_filter_Nodes : Cx := mkCx [(21, [c_filter_run])]
theorem eq_filter_Nodes (p : ((List (Str × (Int × ((List Str) × (List Str))))) × ((List Str) × (Int × Int)))) (l : (List Vi.Node)) (R : ((p : Pat) × p.V) → Prop) : fnVc (cx_filter_Nodes) an_filter_Nodes 0 Tryz.f9 I_filter_Nodes [O_filter_Nodes] (p, l, ()) R = filter_Nodes.vc (fun y0 y1 => R ⟨O_filter_Nodes, (y0, y1, ())⟩) p l := by kernel_rfl
theorem fs_filter_Nodes : CtrsOk Tryz.prog [(21, [c_filter_run])] gl := ⟨ctr1 (ctr_filter_run), trivial⟩
theorem vc_filter_Nodes (H : Nat → Entry) (v : c_filter_Nodes.inp.V) (r : (p : Pat) × p.V) (h : (c_filter_Nodes.body v).Sel H r) : fnVc (cx_filter_Nodes) an_filter_Nodes 0 Tryz.f9 c_filter_Nodes.inp [O_filter_Nodes] v (fun r' => r' = r) := by
  obtain ⟨p, l, ⟨⟩⟩ := v
  obtain ⟨h, rfl⟩ := h
  exact Eq.mpr (eq_filter_Nodes p l _) (filter_Nodes.ok _ p l h rfl)
theorem ctr_filter_Nodes : CtrOk Tryz.prog 9 c_filter_Nodes gl := ⟨⟨_, Tryz.func9, by kernel_rfl, by kernel_rfl⟩, fun H v r h => mk_ok _ (fs_filter_Nodes) (an := an_filter_Nodes) (outs := [O_filter_Nodes]) Tryz.func9 (by decide) (vc_filter_Nodes H v r h)⟩
abbrev I_filter_Count : Pat := { slots := [(0, .ag (.pair (.sl (.pair .str (.pair (.int .i64) (.pair (.sl .str) (.sl .str))))) (.pair (.sl .str) (.pair (.int .i64) (.int .i64))))), (1, .ce (.v (.sl .node)))], ents := [] }
abbrev O_filter_Count : Pat := { slots := [(0, .ag (.pair (.int .i64) (.pair (.int .i64) (.pair (.int .i64) (.int .i64))))), (1, .ce (.v (.int .i64)))], ents := [] }
def c_filter_Count : Ctr := { k0 := 0, inp := I_filter_Count, body := fun v => .need (Sp.runOk v.1 v.2.1) (.ret ⟨O_filter_Count, ((Sp.runF v.1 v.2.1).2.1, (Sp.runF v.1 v.2.1).2.2, ())⟩), ex := 0 }
def an_filter_Count : Ann := []
def cx_filter_Count : Cx := mkCx [(21, [c_filter_run])]
theorem eq_filter_Count (p : ((List (Str × (Int × ((List Str) × (List Str))))) × ((List Str) × (Int × Int)))) (l : (List Vi.Node)) (R : ((p : Pat) × p.V) → Prop) : fnVc (cx_filter_Count) an_filter_Count 0 Tryz.f10 I_filter_Count [O_filter_Count] (p, l, ()) R = filter_Count.vc (fun y0 y1 => R ⟨O_filter_Count, (y0, y1, ())⟩) p l := by kernel_rfl
theorem fs_filter_Count : CtrsOk Tryz.prog [(21, [c_filter_run])] gl := ⟨ctr1 (ctr_filter_run), trivial⟩
theorem vc_filter_Count (H : Nat → Entry) (v : c_filter_Count.inp.V) (r : (p : Pat) × p.V) (h : (c_filter_Count.body v).Sel H r) : fnVc (cx_filter_Count) an_filter_Count 0 Tryz.f10 c_filter_Count.inp [O_filter_Count] v (fun r' => r' = r) := by
  obtain ⟨p, l, ⟨⟩⟩ := v
  obtain ⟨h, rfl⟩ := h
  exact Eq.mpr (eq_filter_Count p l _) (filter_Count.ok _ p l h rfl)
theorem ctr_filter_Count : CtrOk Tryz.prog 10 c_filter_Count gl := ⟨⟨_, Tryz.func10, by kernel_rfl, by kernel_rfl⟩, fun H v r h => mk_ok _ (fs_filter_Count) (an := an_filter_Count) (outs := [O_filter_Count]) Tryz.func10 (by decide) (vc_filter_Count H v r h)⟩
abbrev I_tree_Words_1 : Pat := { slots := [(0, .ag .node), (1, .ce (.v (.int .i64))), (2, .ce (.ptr 0 0))], ents := [.box 84 [.pn 0, .os 1], .row 5 (.int .u8)] }
abbrev O_tree_Words_1 : Pat := { slots := [], ents := [.box 84 [.pn 0, .os 1], .row 5 (.int .u8)] }
def c_tree_Words_1 : Ctr := { k0 := 1, inp := I_tree_Words_1, body := fun v => .need (Sp.wordX.pre v.1 v.2.2.1) (.ret ⟨O_tree_Words_1, (Sp.wordX v.1 v.2.2.1, ())⟩), ex := 0 }
def an_tree_Words_1 : Ann := []
def cx_tree_Words_1 : Cx := mkCx [(48, [c_strings_Builder_WriteString])]
theorem eq_tree_Words_1 (n : Vi.Node) (d : Int) (x : (List Int)) (R : ((p : Pat) × p.V) → Prop) : fnVc (cx_tree_Words_1) an_tree_Words_1 1 Tryz.f47 I_tree_Words_1 [O_tree_Words_1] (n, d, x, ()) R = tree_Words_1.vc (fun y0 => R ⟨O_tree_Words_1, (y0, ())⟩) n d x := by kernel_rfl
theorem fs_tree_Words_1 : CtrsOk Tryz.prog [(48, [c_strings_Builder_WriteString])] gl := ⟨ctr1 (ctr_strings_Builder_WriteString), trivial⟩
theorem vc_tree_Words_1 (H : Nat → Entry) (v : c_tree_Words_1.inp.V) (r : (p : Pat) × p.V) (h : (c_tree_Words_1.body v).Sel H r) : fnVc (cx_tree_Words_1) an_tree_Words_1 1 Tryz.f47 c_tree_Words_1.inp [O_tree_Words_1] v (fun r' => r' = r) := by
  obtain ⟨n, d, x, ⟨⟩⟩ := v
  obtain ⟨h, rfl⟩ := h
  exact Eq.mpr (eq_tree_Words_1 n d x _) (tree_Words_1.ok _ n d x h rfl)
theorem ctr_tree_Words_1 : CtrOk Tryz.prog 47 c_tree_Words_1 gl := ⟨⟨_, Tryz.func47, by kernel_rfl, by kernel_rfl⟩, fun H v r h => mk_ok _ (fs_tree_Words_1) (an := an_tree_Words_1) (outs := [O_tree_Words_1]) Tryz.func47 (by decide) (vc_tree_Words_1 H v r h)⟩
abbrev I_tree_each : Pat := { slots := [(0, .ce (.v (.sl .node))), (1, .ce (.v (.int .i64))), (2, .ce (.fn 47 [] [0]))], ents := [.box 84 [.pn 0, .os 1], .row 5 (.int .u8)] }
abbrev O_tree_each : Pat := { slots := [], ents := [.box 84 [.pn 0, .os 1], .row 5 (.int .u8)] }
def r_tree_each (nn : Nat) : Ctr := { k0 := 1, inp := I_tree_each, body := fun v => .need (Sp.eaOk v.1 v.2.1 v.2.2.1 ∧ Sp.mEa v.1 v.2.1 v.2.2.1 < nn) (.ret ⟨O_tree_each, (Sp.wr v.2.2.1 (Sp.wordsL v.1), ())⟩), ex := 0 }
def c_tree_each : Ctr := { k0 := 1, inp := I_tree_each, body := fun v => .need (Sp.eaOk v.1 v.2.1 v.2.2.1) (.ret ⟨O_tree_each, (Sp.wr v.2.2.1 (Sp.wordsL v.1), ())⟩), ex := 0 }
def an_tree_each : Ann := [(1, { slots := [(1, .ce (.v (.int .i64))), (2, .ce (.fn 47 [] [0])), (8, .ce (.v (.sl .node))), (9, .ce (.v (.int .i64))), (10, .ce (.v (.int .i64)))], ents := [.box 84 [.pn 0, .os 1], .row 5 (.int .u8)] })]
def cx_tree_each (nn : Nat) : Cx := mkCx [(46, [r_tree_each nn]), (47, [c_tree_Words_1])]
theorem eq_tree_each (nn : Nat) (l : (List Vi.Node)) (d : Int) (x : (List Int)) (R : ((p : Pat) × p.V) → Prop) : fnVc (cx_tree_each nn) an_tree_each 1 Tryz.f46 I_tree_each [O_tree_each] (l, d, x, ()) R = tree_each.vc (fun y0 => R ⟨O_tree_each, (y0, ())⟩) nn l d x := by kernel_rfl
theorem fs_tree_each (nn : Nat) (ih_tree_each : CtrOk Tryz.prog 46 (r_tree_each nn) gl) : CtrsOk Tryz.prog [(46, [r_tree_each nn]), (47, [c_tree_Words_1])] gl := ⟨(ctr1 ih_tree_each), (ctr1 (ctr_tree_Words_1)), trivial⟩
theorem grp_ea (nn : Nat) : CtrOk Tryz.prog 46 (r_tree_each nn) gl := by
  induction nn with
  | zero => exact ⟨⟨_, Tryz.func46, by kernel_rfl, by kernel_rfl⟩, fun H v r h => absurd h.1.2 (Nat.not_lt_zero _)⟩
  | succ nn ih =>
  have ih_tree_each := ih
  refine ⟨⟨_, Tryz.func46, by kernel_rfl, by kernel_rfl⟩, ?_⟩
  · intro H v r h
    obtain ⟨l, d, x, ⟨⟩⟩ := v
    obtain ⟨h, rfl⟩ := h
    exact mk_ok _ (fs_tree_each nn ih_tree_each) (an := an_tree_each) (outs := [O_tree_each]) Tryz.func46 (Nat.le_of_ble_eq_true rfl) (Eq.mpr (eq_tree_each nn l d x _) (tree_each.ok nn _ l d x h rfl))

theorem ctr_tree_each : CtrOk Tryz.prog 46 c_tree_each gl := ⟨⟨_, Tryz.func46, by kernel_rfl, by kernel_rfl⟩, fun H v r h => ((grp_ea (Sp.mEa v.1 v.2.1 v.2.2.1 + 1)).2 H v r ⟨⟨h.1, Nat.lt_succ_self _⟩, h.2⟩).body⟩
abbrev I_tree_Words : Pat := { slots := [(0, .ce (.v (.sl .node)))], ents := [] }
abbrev O_tree_Words : Pat := { slots := [(0, .ce (.v .str))], ents := [] }
def c_tree_Words : Ctr := { k0 := 0, inp := I_tree_Words, body := fun v => .need (Sp.woOk v.1) (.ret ⟨O_tree_Words, ((Sp.wordsL v.1), ())⟩), ex := 0 }
def an_tree_Words : Ann := []
def cx_tree_Words : Cx := mkCx [(46, [c_tree_each]), (49, [c_strings_Builder_String]), (47, [c_tree_Words_1])]
theorem eq_tree_Words (l : (List Vi.Node)) (R : ((p : Pat) × p.V) → Prop) : fnVc (cx_tree_Words) an_tree_Words 0 Tryz.f28 I_tree_Words [O_tree_Words] (l, ()) R = tree_Words.vc (fun y0 => R ⟨O_tree_Words, (y0, ())⟩) l := by kernel_rfl
theorem fs_tree_Words : CtrsOk Tryz.prog [(46, [c_tree_each]), (49, [c_strings_Builder_String]), (47, [c_tree_Words_1])] gl := ⟨ctr1 (ctr_tree_each), ctr1 (ctr_strings_Builder_String), ctr1 (ctr_tree_Words_1), trivial⟩
theorem vc_tree_Words (H : Nat → Entry) (v : c_tree_Words.inp.V) (r : (p : Pat) × p.V) (h : (c_tree_Words.body v).Sel H r) : fnVc (cx_tree_Words) an_tree_Words 0 Tryz.f28 c_tree_Words.inp [O_tree_Words] v (fun r' => r' = r) := by
  obtain ⟨l, ⟨⟩⟩ := v
  obtain ⟨h, rfl⟩ := h
  exact Eq.mpr (eq_tree_Words l _) (tree_Words.ok _ l h rfl)
theorem ctr_tree_Words : CtrOk Tryz.prog 28 c_tree_Words gl := ⟨⟨_, Tryz.func28, by kernel_rfl, by kernel_rfl⟩, fun H v r h => mk_ok _ (fs_tree_Words) (an := an_tree_Words) (outs := [O_tree_Words]) Tryz.func28 (by decide) (vc_tree_Words H v r h)⟩
abbrev I_filter_Words : Pat := { slots := [(0, .ag (.pair (.sl (.pair .str (.pair (.int .i64) (.pair (.sl .str) (.sl .str))))) (.pair (.sl .str) (.pair (.int .i64) (.int .i64))))), (1, .ce (.v (.sl .node)))], ents := [] }
abbrev O_filter_Words : Pat := { slots := [(0, .ce (.v .str)), (1, .ce (.v (.int .i64)))], ents := [] }
def c_filter_Words : Ctr := { k0 := 0, inp := I_filter_Words, body := fun v => .need (Sp.runOkW v.1 v.2.1) (.ret ⟨O_filter_Words, (Sp.wordsL (Sp.runF v.1 v.2.1).1, (Sp.runF v.1 v.2.1).2.2, ())⟩), ex := 0 }
def an_filter_Words : Ann := []
def cx_filter_Words : Cx := mkCx [(21, [c_filter_run]), (28, [c_tree_Words])]
theorem eq_filter_Words (p : ((List (Str × (Int × ((List Str) × (List Str))))) × ((List Str) × (Int × Int)))) (l : (List Vi.Node)) (R : ((p : Pat) × p.V) → Prop) : fnVc (cx_filter_Words) an_filter_Words 0 Tryz.f15 I_filter_Words [O_filter_Words] (p, l, ()) R = filter_Words.vc (fun y0 y1 => R ⟨O_filter_Words, (y0, y1, ())⟩) p l := by kernel_rfl
theorem fs_filter_Words : CtrsOk Tryz.prog [(21, [c_filter_run]), (28, [c_tree_Words])] gl := ⟨ctr1 (ctr_filter_run), ctr1 (ctr_tree_Words), trivial⟩
theorem vc_filter_Words (H : Nat → Entry) (v : c_filter_Words.inp.V) (r : (p : Pat) × p.V) (h : (c_filter_Words.body v).Sel H r) : fnVc (cx_filter_Words) an_filter_Words 0 Tryz.f15 c_filter_Words.inp [O_filter_Words] v (fun r' => r' = r) := by
  obtain ⟨p, l, ⟨⟩⟩ := v
  obtain ⟨h, rfl⟩ := h
  exact Eq.mpr (eq_filter_Words p l _) (filter_Words.ok _ p l h rfl)
theorem ctr_filter_Words : CtrOk Tryz.prog 15 c_filter_Words gl := ⟨⟨_, Tryz.func15, by kernel_rfl, by kernel_rfl⟩, fun H v r h => mk_ok _ (fs_filter_Words) (an := an_filter_Words) (outs := [O_filter_Words]) Tryz.func15 (by decide) (vc_filter_Words H v r h)⟩
abbrev I_rectolaw17_large : Pat := { slots := [(0, .ag (.pair (.sl (.pair .str (.pair (.int .i64) (.pair (.sl .str) (.sl .str))))) (.pair (.sl .str) (.pair (.int .i64) (.int .i64))))), (1, .ce (.v (.sl .node)))], ents := [] }
abbrev O_rectolaw17_large : Pat := { slots := [(0, .ce (.v .bool))], ents := [] }
def c_rectolaw17_large : Ctr := { k0 := 0, inp := I_rectolaw17_large, body := fun v => .need (Sp.large17.pre v.1 v.2.1) (.ret ⟨O_rectolaw17_large, ((Sp.large17 v.1 v.2.1), ())⟩), ex := 0 }
def an_rectolaw17_large : Ann := [(4, { slots := [(1, .ce (.v (.sl .node))), (18, .ce (.v (.sl (.pair .str (.pair (.int .i64) (.pair (.sl .str) (.sl .str))))))), (19, .ce (.v (.int .i64))), (20, .ce (.v (.int .i64)))], ents := [] })]
def cx_rectolaw17_large : Cx := mkCx [(16, [c_rectoplain_Large])]
theorem eq_rectolaw17_large (p : ((List (Str × (Int × ((List Str) × (List Str))))) × ((List Str) × (Int × Int)))) (l : (List Vi.Node)) (R : ((p : Pat) × p.V) → Prop) : fnVc (cx_rectolaw17_large) an_rectolaw17_large 0 Tryz.f6 I_rectolaw17_large [O_rectolaw17_large] (p, l, ()) R = rectolaw17_large.vc (fun y0 => R ⟨O_rectolaw17_large, (y0, ())⟩) p l := by kernel_rfl
theorem fs_rectolaw17_large : CtrsOk Tryz.prog [(16, [c_rectoplain_Large])] gl := ⟨ctr1 (ctr_rectoplain_Large), trivial⟩
theorem vc_rectolaw17_large (H : Nat → Entry) (v : c_rectolaw17_large.inp.V) (r : (p : Pat) × p.V) (h : (c_rectolaw17_large.body v).Sel H r) : fnVc (cx_rectolaw17_large) an_rectolaw17_large 0 Tryz.f6 c_rectolaw17_large.inp [O_rectolaw17_large] v (fun r' => r' = r) := by
  obtain ⟨p, l, ⟨⟩⟩ := v
  obtain ⟨h, rfl⟩ := h
  exact Eq.mpr (eq_rectolaw17_large p l _) (rectolaw17_large.ok _ p l h rfl)
theorem ctr_rectolaw17_large : CtrOk Tryz.prog 6 c_rectolaw17_large gl := ⟨⟨_, Tryz.func6, by kernel_rfl, by kernel_rfl⟩, fun H v r h => mk_ok _ (fs_rectolaw17_large) (an := an_rectolaw17_large) (outs := [O_rectolaw17_large]) Tryz.func6 (by decide) (vc_rectolaw17_large H v r h)⟩
abbrev I_rectolaw17_font : Pat := { slots := [], ents := [] }
abbrev O_rectolaw17_font : Pat := { slots := [(0, .ce (.v .bool))], ents := [] }
def c_rectolaw17_font : Ctr := { k0 := 0, inp := I_rectolaw17_font, body := fun v => .ret ⟨O_rectolaw17_font, ((Sp.tt), ())⟩, ex := 0 }
def an_rectolaw17_font : Ann := []
def cx_rectolaw17_font : Cx := mkCx [(20, [c_policy_Plain]), (9, [c_filter_Nodes]), (10, [c_filter_Count])] false false true
theorem eq_rectolaw17_font  (R : ((p : Pat) × p.V) → Prop) : fnVc (cx_rectolaw17_font) an_rectolaw17_font 0 Tryz.f8 I_rectolaw17_font [O_rectolaw17_font] (()) R = rectolaw17_font.vc (fun y0 => R ⟨O_rectolaw17_font, (y0, ())⟩)  := by kernel_rfl
theorem fs_rectolaw17_font : CtrsOk Tryz.prog [(20, [c_policy_Plain]), (9, [c_filter_Nodes]), (10, [c_filter_Count])] gl := ⟨ctr1 (ctr_policy_Plain), ctr1 (ctr_filter_Nodes), ctr1 (ctr_filter_Count), trivial⟩
theorem vc_rectolaw17_font (H : Nat → Entry) (v : c_rectolaw17_font.inp.V) (r : (p : Pat) × p.V) (h : (c_rectolaw17_font.body v).Sel H r) : fnVc (cx_rectolaw17_font) an_rectolaw17_font 0 Tryz.f8 c_rectolaw17_font.inp [O_rectolaw17_font] v (fun r' => r' = r) := by
  obtain ⟨⟩ := v
  obtain rfl := h
  exact Eq.mpr (eq_rectolaw17_font  _) (rectolaw17_font.ok _   rfl)
theorem ctr_rectolaw17_font : CtrOk Tryz.prog 8 c_rectolaw17_font gl := ⟨⟨_, Tryz.func8, by kernel_rfl, by kernel_rfl⟩, fun H v r h => mk_ok _ (fs_rectolaw17_font) (an := an_rectolaw17_font) (outs := [O_rectolaw17_font]) Tryz.func8 (by decide) (vc_rectolaw17_font H v r h)⟩
abbrev I_rectolaw17_bare : Pat := { slots := [(0, .ce (.v (.sl .node)))], ents := [] }
abbrev O_rectolaw17_bare : Pat := { slots := [(0, .ce (.v .bool))], ents := [] }
def r_rectolaw17_bare (nn : Nat) : Ctr := { k0 := 0, inp := I_rectolaw17_bare, body := fun v => .need (Sp.prOk v.1 ∧ Sp.mCt v.1 < nn) (.ret ⟨O_rectolaw17_bare, ((Sp.bareL v.1), ())⟩), ex := 0 }
def c_rectolaw17_bare : Ctr := { k0 := 0, inp := I_rectolaw17_bare, body := fun v => .need (Sp.prOk v.1) (.ret ⟨O_rectolaw17_bare, ((Sp.bareL v.1), ())⟩), ex := 0 }
def an_rectolaw17_bare : Ann := [(2, { slots := [(5, .ce (.v (.sl .node))), (6, .ce (.v (.int .i64))), (7, .ce (.v (.int .i64)))], ents := [] })]
def cx_rectolaw17_bare (nn : Nat) : Cx := mkCx [(27, [c_tags_Void]), (14, [r_rectolaw17_bare nn])]
theorem eq_rectolaw17_bare (nn : Nat) (l : (List Vi.Node)) (R : ((p : Pat) × p.V) → Prop) : fnVc (cx_rectolaw17_bare nn) an_rectolaw17_bare 0 Tryz.f14 I_rectolaw17_bare [O_rectolaw17_bare] (l, ()) R = rectolaw17_bare.vc (fun y0 => R ⟨O_rectolaw17_bare, (y0, ())⟩) nn l := by kernel_rfl
theorem fs_rectolaw17_bare (nn : Nat) (ih_rectolaw17_bare : CtrOk Tryz.prog 14 (r_rectolaw17_bare nn) gl) : CtrsOk Tryz.prog [(27, [c_tags_Void]), (14, [r_rectolaw17_bare nn])] gl := ⟨(ctr1 (ctr_tags_Void)), (ctr1 ih_rectolaw17_bare), trivial⟩
theorem grp_bare (nn : Nat) : CtrOk Tryz.prog 14 (r_rectolaw17_bare nn) gl := by
  induction nn with
  | zero => exact ⟨⟨_, Tryz.func14, by kernel_rfl, by kernel_rfl⟩, fun H v r h => absurd h.1.2 (Nat.not_lt_zero _)⟩
  | succ nn ih =>
  have ih_rectolaw17_bare := ih
  refine ⟨⟨_, Tryz.func14, by kernel_rfl, by kernel_rfl⟩, ?_⟩
  · intro H v r h
    obtain ⟨l, ⟨⟩⟩ := v
    obtain ⟨h, rfl⟩ := h
    exact mk_ok _ (fs_rectolaw17_bare nn ih_rectolaw17_bare) (an := an_rectolaw17_bare) (outs := [O_rectolaw17_bare]) Tryz.func14 (Nat.le_of_ble_eq_true rfl) (Eq.mpr (eq_rectolaw17_bare nn l _) (rectolaw17_bare.ok nn _ l h rfl))

theorem ctr_rectolaw17_bare : CtrOk Tryz.prog 14 c_rectolaw17_bare gl := ⟨⟨_, Tryz.func14, by kernel_rfl, by kernel_rfl⟩, fun H v r h => ((grp_bare (Sp.mCt v.1 + 1)).2 H v r ⟨⟨h.1, Nat.lt_succ_self _⟩, h.2⟩).body⟩
abbrev I_rectolaw17_FilterAllows : Pat := { slots := [(0, .ag (.pair (.sl (.pair .str (.pair (.int .i64) (.pair (.sl .str) (.sl .str))))) (.pair (.sl .str) (.pair (.int .i64) (.int .i64))))), (1, .ce (.v (.sl .node)))], ents := [] }
abbrev O_rectolaw17_FilterAllows : Pat := { slots := [(0, .ce (.v .bool))], ents := [] }
def c_rectolaw17_FilterAllows : Ctr := { k0 := 0, inp := I_rectolaw17_FilterAllows, body := fun v => .need (Sz (.pair (.sl (.pair .str (.pair (.int .i64) (.pair (.sl .str) (.sl .str))))) (.pair (.sl .str) (.pair (.int .i64) (.int .i64)))) v.1 ∧ Sz (.sl .node) v.2.1) (.ret ⟨O_rectolaw17_FilterAllows, ((Sp.tt), ())⟩), ex := 0 }
def an_rectolaw17_FilterAllows : Ann := []
def cx_rectolaw17_FilterAllows : Cx := mkCx [(6, [c_rectolaw17_large]), (7, [c_policy_Check]), (8, [c_rectolaw17_font]), (9, [c_filter_Nodes]), (10, [c_filter_Count]), (11, [c_policy_Allows]), (12, [c_rectoplain_Nodes])]
theorem eq_rectolaw17_FilterAllows (p : ((List (Str × (Int × ((List Str) × (List Str))))) × ((List Str) × (Int × Int)))) (l : (List Vi.Node)) (R : ((p : Pat) × p.V) → Prop) : fnVc (cx_rectolaw17_FilterAllows) an_rectolaw17_FilterAllows 0 Tryz.f3 I_rectolaw17_FilterAllows [O_rectolaw17_FilterAllows] (p, l, ()) R = rectolaw17_FilterAllows.vc (fun y0 => R ⟨O_rectolaw17_FilterAllows, (y0, ())⟩) p l := by kernel_rfl
theorem fs_rectolaw17_FilterAllows : CtrsOk Tryz.prog [(6, [c_rectolaw17_large]), (7, [c_policy_Check]), (8, [c_rectolaw17_font]), (9, [c_filter_Nodes]), (10, [c_filter_Count]), (11, [c_policy_Allows]), (12, [c_rectoplain_Nodes])] gl := ⟨ctr1 (ctr_rectolaw17_large), ctr1 (ctr_policy_Check), ctr1 (ctr_rectolaw17_font), ctr1 (ctr_filter_Nodes), ctr1 (ctr_filter_Count), ctr1 (ctr_policy_Allows), ctr1 (ctr_rectoplain_Nodes), trivial⟩
theorem vc_rectolaw17_FilterAllows (H : Nat → Entry) (v : c_rectolaw17_FilterAllows.inp.V) (r : (p : Pat) × p.V) (h : (c_rectolaw17_FilterAllows.body v).Sel H r) : fnVc (cx_rectolaw17_FilterAllows) an_rectolaw17_FilterAllows 0 Tryz.f3 c_rectolaw17_FilterAllows.inp [O_rectolaw17_FilterAllows] v (fun r' => r' = r) := by
  obtain ⟨p, l, ⟨⟩⟩ := v
  obtain ⟨h, rfl⟩ := h
  exact Eq.mpr (eq_rectolaw17_FilterAllows p l _) (rectolaw17_FilterAllows.ok _ p l h rfl)
theorem ctr_rectolaw17_FilterAllows : CtrOk Tryz.prog 3 c_rectolaw17_FilterAllows gl := ⟨⟨_, Tryz.func3, by kernel_rfl, by kernel_rfl⟩, fun H v r h => mk_ok _ (fs_rectolaw17_FilterAllows) (an := an_rectolaw17_FilterAllows) (outs := [O_rectolaw17_FilterAllows]) Tryz.func3 (by decide) (vc_rectolaw17_FilterAllows H v r h)⟩
abbrev I_rectolaw17_FilterStays : Pat := { slots := [(0, .ag (.pair (.sl (.pair .str (.pair (.int .i64) (.pair (.sl .str) (.sl .str))))) (.pair (.sl .str) (.pair (.int .i64) (.int .i64))))), (1, .ce (.v (.sl .node)))], ents := [] }
abbrev O_rectolaw17_FilterStays : Pat := { slots := [(0, .ce (.v .bool))], ents := [] }
def c_rectolaw17_FilterStays : Ctr := { k0 := 0, inp := I_rectolaw17_FilterStays, body := fun v => .need (Sz (.pair (.sl (.pair .str (.pair (.int .i64) (.pair (.sl .str) (.sl .str))))) (.pair (.sl .str) (.pair (.int .i64) (.int .i64)))) v.1 ∧ Sz (.sl .node) v.2.1) (.ret ⟨O_rectolaw17_FilterStays, ((Sp.tt), ())⟩), ex := 0 }
def an_rectolaw17_FilterStays : Ann := []
def cx_rectolaw17_FilterStays : Cx := mkCx [(6, [c_rectolaw17_large]), (13, [c_rectoref08_Check]), (11, [c_policy_Allows]), (14, [c_rectolaw17_bare]), (8, [c_rectolaw17_font]), (9, [c_filter_Nodes]), (12, [c_rectoplain_Nodes])]
theorem eq_rectolaw17_FilterStays (p : ((List (Str × (Int × ((List Str) × (List Str))))) × ((List Str) × (Int × Int)))) (l : (List Vi.Node)) (R : ((p : Pat) × p.V) → Prop) : fnVc (cx_rectolaw17_FilterStays) an_rectolaw17_FilterStays 0 Tryz.f4 I_rectolaw17_FilterStays [O_rectolaw17_FilterStays] (p, l, ()) R = rectolaw17_FilterStays.vc (fun y0 => R ⟨O_rectolaw17_FilterStays, (y0, ())⟩) p l := by kernel_rfl
theorem fs_rectolaw17_FilterStays : CtrsOk Tryz.prog [(6, [c_rectolaw17_large]), (13, [c_rectoref08_Check]), (11, [c_policy_Allows]), (14, [c_rectolaw17_bare]), (8, [c_rectolaw17_font]), (9, [c_filter_Nodes]), (12, [c_rectoplain_Nodes])] gl := ⟨ctr1 (ctr_rectolaw17_large), ctr1 (ctr_rectoref08_Check), ctr1 (ctr_policy_Allows), ctr1 (ctr_rectolaw17_bare), ctr1 (ctr_rectolaw17_font), ctr1 (ctr_filter_Nodes), ctr1 (ctr_rectoplain_Nodes), trivial⟩
theorem vc_rectolaw17_FilterStays (H : Nat → Entry) (v : c_rectolaw17_FilterStays.inp.V) (r : (p : Pat) × p.V) (h : (c_rectolaw17_FilterStays.body v).Sel H r) : fnVc (cx_rectolaw17_FilterStays) an_rectolaw17_FilterStays 0 Tryz.f4 c_rectolaw17_FilterStays.inp [O_rectolaw17_FilterStays] v (fun r' => r' = r) := by
  obtain ⟨p, l, ⟨⟩⟩ := v
  obtain ⟨h, rfl⟩ := h
  exact Eq.mpr (eq_rectolaw17_FilterStays p l _) (rectolaw17_FilterStays.ok _ p l h rfl)
theorem ctr_rectolaw17_FilterStays : CtrOk Tryz.prog 4 c_rectolaw17_FilterStays gl := ⟨⟨_, Tryz.func4, by kernel_rfl, by kernel_rfl⟩, fun H v r h => mk_ok _ (fs_rectolaw17_FilterStays) (an := an_rectolaw17_FilterStays) (outs := [O_rectolaw17_FilterStays]) Tryz.func4 (by decide) (vc_rectolaw17_FilterStays H v r h)⟩
abbrev I_rectolaw17_FilterJoins : Pat := { slots := [(0, .ag (.pair (.sl (.pair .str (.pair (.int .i64) (.pair (.sl .str) (.sl .str))))) (.pair (.sl .str) (.pair (.int .i64) (.int .i64))))), (1, .ce (.v (.sl .node))), (2, .ce (.v (.sl .node)))], ents := [] }
abbrev O_rectolaw17_FilterJoins : Pat := { slots := [(0, .ce (.v .bool))], ents := [] }
def c_rectolaw17_FilterJoins : Ctr := { k0 := 0, inp := I_rectolaw17_FilterJoins, body := fun v => .need (Sz (.pair (.sl (.pair .str (.pair (.int .i64) (.pair (.sl .str) (.sl .str))))) (.pair (.sl .str) (.pair (.int .i64) (.int .i64)))) v.1 ∧ Sz (.sl .node) v.2.1 ∧ Sz (.sl .node) v.2.2.1) (.ret ⟨O_rectolaw17_FilterJoins, ((Sp.tt), ())⟩), ex := 0 }
def an_rectolaw17_FilterJoins : Ann := []
def cx_rectolaw17_FilterJoins : Cx := mkCx [(6, [c_rectolaw17_large]), (8, [c_rectolaw17_font]), (15, [c_filter_Words]), (10, [c_filter_Count])]
theorem eq_rectolaw17_FilterJoins (p : ((List (Str × (Int × ((List Str) × (List Str))))) × ((List Str) × (Int × Int)))) (a : (List Vi.Node)) (b : (List Vi.Node)) (R : ((p : Pat) × p.V) → Prop) : fnVc (cx_rectolaw17_FilterJoins) an_rectolaw17_FilterJoins 0 Tryz.f5 I_rectolaw17_FilterJoins [O_rectolaw17_FilterJoins] (p, a, b, ()) R = rectolaw17_FilterJoins.vc (fun y0 => R ⟨O_rectolaw17_FilterJoins, (y0, ())⟩) p a b := by kernel_rfl
theorem fs_rectolaw17_FilterJoins : CtrsOk Tryz.prog [(6, [c_rectolaw17_large]), (8, [c_rectolaw17_font]), (15, [c_filter_Words]), (10, [c_filter_Count])] gl := ⟨ctr1 (ctr_rectolaw17_large), ctr1 (ctr_rectolaw17_font), ctr1 (ctr_filter_Words), ctr1 (ctr_filter_Count), trivial⟩
theorem vc_rectolaw17_FilterJoins (H : Nat → Entry) (v : c_rectolaw17_FilterJoins.inp.V) (r : (p : Pat) × p.V) (h : (c_rectolaw17_FilterJoins.body v).Sel H r) : fnVc (cx_rectolaw17_FilterJoins) an_rectolaw17_FilterJoins 0 Tryz.f5 c_rectolaw17_FilterJoins.inp [O_rectolaw17_FilterJoins] v (fun r' => r' = r) := by
  obtain ⟨p, a, b, ⟨⟩⟩ := v
  obtain ⟨h, rfl⟩ := h
  exact Eq.mpr (eq_rectolaw17_FilterJoins p a b _) (rectolaw17_FilterJoins.ok _ p a b h rfl)
theorem ctr_rectolaw17_FilterJoins : CtrOk Tryz.prog 5 c_rectolaw17_FilterJoins gl := ⟨⟨_, Tryz.func5, by kernel_rfl, by kernel_rfl⟩, fun H v r h => mk_ok _ (fs_rectolaw17_FilterJoins) (an := an_rectolaw17_FilterJoins) (outs := [O_rectolaw17_FilterJoins]) Tryz.func5 (by decide) (vc_rectolaw17_FilterJoins H v r h)⟩
end Vs
