/- Functions held against what they tell. Written by a program of this session. -/
import Derived.Test.YtgfpmlildhbboaaPlE
import Derived.Test.YtgfpmlildhbboaaViThree
import Derived.Test.YtgfpmlildhbboaaFnmM
set_option linter.unnecessarySimpa false
set_option linter.unusedVariables false
set_option linter.unusedSectionVars false
set_option linter.unusedSimpArgs false
set_option autoImplicit false
set_option linter.unusedVariables false
set_option maxRecDepth 100000
attribute [local irreducible] Vi.fnVc
namespace Vs
open Go Vi Go.Proofs
abbrev I_tree_Same_1_1 : Pat := { slots := [(0, .ag (.pair .str .str)), (1, .ag (.pair .str .str))], ents := [] }
abbrev O_tree_Same_1_1 : Pat := { slots := [(0, .ce (.v .bool))], ents := [] }
def c_tree_Same_1_1 : Ctr := { k0 := 0, inp := I_tree_Same_1_1, body := fun v => .ret ⟨O_tree_Same_1_1, ((Sp.eqA1 v.1 v.2.1), ())⟩, ex := 0 }
def an_tree_Same_1_1 : Ann := []
def cx_tree_Same_1_1 : Cx := mkCx []
theorem eq_tree_Same_1_1 (p : (Str × Str)) (q : (Str × Str)) (R : ((p : Pat) × p.V) → Prop) : fnVc (cx_tree_Same_1_1) an_tree_Same_1_1 0 Try.f79 I_tree_Same_1_1 [O_tree_Same_1_1] (p, q, ()) R = tree_Same_1_1.vc (fun y0 => R ⟨O_tree_Same_1_1, (y0, ())⟩) p q := by kernel_rfl
theorem fs_tree_Same_1_1 : CtrsOk Try.prog [] := trivial
theorem vc_tree_Same_1_1 (H : Nat → Entry) (v : c_tree_Same_1_1.inp.V) (r : (p : Pat) × p.V) (h : (c_tree_Same_1_1.body v).Sel H r) : fnVc (cx_tree_Same_1_1) an_tree_Same_1_1 0 Try.f79 c_tree_Same_1_1.inp [O_tree_Same_1_1] v (fun r' => r' = r) := by
  obtain ⟨p, q, ⟨⟩⟩ := v
  obtain rfl := h
  exact Eq.mpr (eq_tree_Same_1_1 p q _) (tree_Same_1_1.ok _ p q  rfl)
theorem ctr_tree_Same_1_1 : CtrOk Try.prog 79 c_tree_Same_1_1 := ⟨⟨_, Try.func79, by kernel_rfl, by kernel_rfl⟩, fun H v r h => mk_ok _ (fs_tree_Same_1_1) (an := an_tree_Same_1_1) (outs := [O_tree_Same_1_1]) Try.func79 (by decide) (vc_tree_Same_1_1 H v r h)⟩
abbrev I_EqualFunc_Attr : Pat := { slots := [(0, .ce (.v (.sl (.pair .str .str)))), (1, .ce (.v (.sl (.pair .str .str)))), (2, .ce (.fn 79 [] []))], ents := [] }
abbrev O_EqualFunc_Attr : Pat := { slots := [(0, .ce (.v .bool))], ents := [] }
def c_EqualFunc_Attr : Ctr := { k0 := 0, inp := I_EqualFunc_Attr, body := fun v => .need (Sp.eqAt.pre v.1 v.2.1) (.ret ⟨O_EqualFunc_Attr, (Sp.eqAt v.1 v.2.1, ())⟩), ex := 0 }
def an_EqualFunc_Attr : Ann := [(4, { slots := [(1, .ce (.v (.sl (.pair .str .str)))), (2, .ce (.fn 79 [] [])), (15, .ce (.v (.sl (.pair .str .str)))), (16, .ce (.v (.int .i64))), (17, .ce (.v (.int .i64)))], ents := [] })]
def cx_EqualFunc_Attr : Cx := mkCx [(79, [c_tree_Same_1_1])]
theorem eq_EqualFunc_Attr (a : (List (Str × Str))) (b : (List (Str × Str))) (R : ((p : Pat) × p.V) → Prop) : fnVc (cx_EqualFunc_Attr) an_EqualFunc_Attr 0 Try.f78 I_EqualFunc_Attr [O_EqualFunc_Attr] (a, b, ()) R = EqualFunc_Attr.vc (fun y0 => R ⟨O_EqualFunc_Attr, (y0, ())⟩) a b := by kernel_rfl
theorem fs_EqualFunc_Attr : CtrsOk Try.prog [(79, [c_tree_Same_1_1])] := ⟨ctr1 (ctr_tree_Same_1_1), trivial⟩
theorem vc_EqualFunc_Attr (H : Nat → Entry) (v : c_EqualFunc_Attr.inp.V) (r : (p : Pat) × p.V) (h : (c_EqualFunc_Attr.body v).Sel H r) : fnVc (cx_EqualFunc_Attr) an_EqualFunc_Attr 0 Try.f78 c_EqualFunc_Attr.inp [O_EqualFunc_Attr] v (fun r' => r' = r) := by
  obtain ⟨a, b, ⟨⟩⟩ := v
  obtain ⟨h, rfl⟩ := h
  exact Eq.mpr (eq_EqualFunc_Attr a b _) (EqualFunc_Attr.ok _ a b h rfl)
theorem ctr_EqualFunc_Attr : CtrOk Try.prog 78 c_EqualFunc_Attr := ⟨⟨_, Try.func78, by kernel_rfl, by kernel_rfl⟩, fun H v r h => mk_ok _ (fs_EqualFunc_Attr) (an := an_EqualFunc_Attr) (outs := [O_EqualFunc_Attr]) Try.func78 (by decide) (vc_EqualFunc_Attr H v r h)⟩
abbrev I_tree_Same : Pat := { slots := [(0, .ce (.v (.sl .node))), (1, .ce (.v (.sl .node)))], ents := [] }
abbrev O_tree_Same : Pat := { slots := [(0, .ce (.v .bool))], ents := [] }
def r_tree_Same (nn : Nat) : Ctr := { k0 := 0, inp := I_tree_Same, body := fun v => .need (Sp.eqNs.pre v.1 v.2.1 ∧ Sp.mSame v.1 v.2.1 < nn) (.ret ⟨O_tree_Same, ((Sp.eqNs v.1 v.2.1), ())⟩), ex := 0 }
def c_tree_Same : Ctr := { k0 := 0, inp := I_tree_Same, body := fun v => .need (Sp.eqNs.pre v.1 v.2.1) (.ret ⟨O_tree_Same, ((Sp.eqNs v.1 v.2.1), ())⟩), ex := 0 }
def an_tree_Same : Ann := []
abbrev I_EqualFunc_Node : Pat := { slots := [(0, .ce (.v (.sl .node))), (1, .ce (.v (.sl .node))), (2, .ce (.fn 77 [] []))], ents := [] }
abbrev O_EqualFunc_Node : Pat := { slots := [(0, .ce (.v .bool))], ents := [] }
def r_EqualFunc_Node (nn : Nat) : Ctr := { k0 := 0, inp := I_EqualFunc_Node, body := fun v => .need (Sp.eqNs.pre v.1 v.2.1 ∧ Sp.mEqF v.1 v.2.1 < nn) (.ret ⟨O_EqualFunc_Node, (Sp.eqNs v.1 v.2.1, ())⟩), ex := 0 }
def an_EqualFunc_Node : Ann := [(4, { slots := [(1, .ce (.v (.sl .node))), (2, .ce (.fn 77 [] [])), (15, .ce (.v (.sl .node))), (16, .ce (.v (.int .i64))), (17, .ce (.v (.int .i64)))], ents := [] })]
abbrev I_tree_Same_1 : Pat := { slots := [(0, .ag .node), (1, .ag .node)], ents := [] }
abbrev O_tree_Same_1 : Pat := { slots := [(0, .ce (.v .bool))], ents := [] }
def r_tree_Same_1 (nn : Nat) : Ctr := { k0 := 0, inp := I_tree_Same_1, body := fun v => .need (Sp.eqNd.pre v.1 v.2.1 ∧ Sp.mSm1 v.1 v.2.1 < nn) (.ret ⟨O_tree_Same_1, ((Sp.eqNd v.1 v.2.1), ())⟩), ex := 0 }
def an_tree_Same_1 : Ann := []
def cx_tree_Same (nn : Nat) : Cx := mkCx [(76, [r_EqualFunc_Node nn]), (77, [r_tree_Same_1 nn])]
def cx_EqualFunc_Node (nn : Nat) : Cx := mkCx [(77, [r_tree_Same_1 nn])]
def cx_tree_Same_1 (nn : Nat) : Cx := mkCx [(78, [c_EqualFunc_Attr]), (79, [c_tree_Same_1_1]), (57, [r_tree_Same nn])]
theorem eq_tree_Same (nn : Nat) (a : (List Vi.Node)) (b : (List Vi.Node)) (R : ((p : Pat) × p.V) → Prop) : fnVc (cx_tree_Same nn) an_tree_Same 0 Try.f57 I_tree_Same [O_tree_Same] (a, b, ()) R = tree_Same.vc (fun y0 => R ⟨O_tree_Same, (y0, ())⟩) nn a b := by kernel_rfl
theorem fs_tree_Same (nn : Nat) (ih_EqualFunc_Node : CtrOk Try.prog 76 (r_EqualFunc_Node nn)) (ih_tree_Same_1 : CtrOk Try.prog 77 (r_tree_Same_1 nn)) : CtrsOk Try.prog [(76, [r_EqualFunc_Node nn]), (77, [r_tree_Same_1 nn])] := ⟨(ctr1 ih_EqualFunc_Node), (ctr1 ih_tree_Same_1), trivial⟩
theorem eq_EqualFunc_Node (nn : Nat) (a : (List Vi.Node)) (b : (List Vi.Node)) (R : ((p : Pat) × p.V) → Prop) : fnVc (cx_EqualFunc_Node nn) an_EqualFunc_Node 0 Try.f76 I_EqualFunc_Node [O_EqualFunc_Node] (a, b, ()) R = EqualFunc_Node.vc (fun y0 => R ⟨O_EqualFunc_Node, (y0, ())⟩) nn a b := by kernel_rfl
theorem fs_EqualFunc_Node (nn : Nat) (ih_tree_Same_1 : CtrOk Try.prog 77 (r_tree_Same_1 nn)) : CtrsOk Try.prog [(77, [r_tree_Same_1 nn])] := ⟨(ctr1 ih_tree_Same_1), trivial⟩
theorem eq_tree_Same_1 (nn : Nat) (x : Vi.Node) (y : Vi.Node) (R : ((p : Pat) × p.V) → Prop) : fnVc (cx_tree_Same_1 nn) an_tree_Same_1 0 Try.f77 I_tree_Same_1 [O_tree_Same_1] (x, y, ()) R = tree_Same_1.vc (fun y0 => R ⟨O_tree_Same_1, (y0, ())⟩) nn x y := by kernel_rfl
theorem fs_tree_Same_1 (nn : Nat) (ih_tree_Same : CtrOk Try.prog 57 (r_tree_Same nn)) : CtrsOk Try.prog [(78, [c_EqualFunc_Attr]), (79, [c_tree_Same_1_1]), (57, [r_tree_Same nn])] := ⟨(ctr1 (ctr_EqualFunc_Attr)), (ctr1 (ctr_tree_Same_1_1)), (ctr1 ih_tree_Same), trivial⟩
theorem grp_same (nn : Nat) : CtrOk Try.prog 57 (r_tree_Same nn) ∧ CtrOk Try.prog 76 (r_EqualFunc_Node nn) ∧ CtrOk Try.prog 77 (r_tree_Same_1 nn) := by
  induction nn with
  | zero => exact ⟨⟨⟨_, Try.func57, by kernel_rfl, by kernel_rfl⟩, fun H v r h => absurd h.1.2 (Nat.not_lt_zero _)⟩, ⟨⟨_, Try.func76, by kernel_rfl, by kernel_rfl⟩, fun H v r h => absurd h.1.2 (Nat.not_lt_zero _)⟩, ⟨⟨_, Try.func77, by kernel_rfl, by kernel_rfl⟩, fun H v r h => absurd h.1.2 (Nat.not_lt_zero _)⟩⟩
  | succ nn ih =>
  obtain ⟨ih_tree_Same, ih_EqualFunc_Node, ih_tree_Same_1⟩ := ih
  refine ⟨⟨⟨_, Try.func57, by kernel_rfl, by kernel_rfl⟩, ?_⟩, ⟨⟨_, Try.func76, by kernel_rfl, by kernel_rfl⟩, ?_⟩, ⟨⟨_, Try.func77, by kernel_rfl, by kernel_rfl⟩, ?_⟩⟩
  · intro H v r h
    obtain ⟨a, b, ⟨⟩⟩ := v
    obtain ⟨h, rfl⟩ := h
    exact mk_ok _ (fs_tree_Same nn ih_EqualFunc_Node ih_tree_Same_1) (an := an_tree_Same) (outs := [O_tree_Same]) Try.func57 (Nat.le_of_ble_eq_true rfl) (Eq.mpr (eq_tree_Same nn a b _) (tree_Same.ok nn _ a b h rfl))
  · intro H v r h
    obtain ⟨a, b, ⟨⟩⟩ := v
    obtain ⟨h, rfl⟩ := h
    exact mk_ok _ (fs_EqualFunc_Node nn ih_tree_Same_1) (an := an_EqualFunc_Node) (outs := [O_EqualFunc_Node]) Try.func76 (Nat.le_of_ble_eq_true rfl) (Eq.mpr (eq_EqualFunc_Node nn a b _) (EqualFunc_Node.ok nn _ a b h rfl))
  · intro H v r h
    obtain ⟨x, y, ⟨⟩⟩ := v
    obtain ⟨h, rfl⟩ := h
    exact mk_ok _ (fs_tree_Same_1 nn ih_tree_Same) (an := an_tree_Same_1) (outs := [O_tree_Same_1]) Try.func77 (Nat.le_of_ble_eq_true rfl) (Eq.mpr (eq_tree_Same_1 nn x y _) (tree_Same_1.ok nn _ x y h rfl))

theorem ctr_tree_Same : CtrOk Try.prog 57 c_tree_Same := ⟨⟨_, Try.func57, by kernel_rfl, by kernel_rfl⟩, fun H v r h => ((grp_same (Sp.mSame v.1 v.2.1 + 1)).1.2 H v r ⟨⟨h.1, Nat.lt_succ_self _⟩, h.2⟩).body⟩
abbrev I_blend_of_api_Node : Pat := { slots := [(0, .ce (.v (.sl .node))), (1, .ag (.pair (.int .i64) (.int .i64)))], ents := [] }
abbrev O_blend_of_api_Node : Pat := { slots := [(0, .ce (.v (.sl .node)))], ents := [] }
def c_blend_of_api_Node : Ctr := { k0 := 0, inp := I_blend_of_api_Node, body := fun v => .need (Sp.ofN.pre v.1 v.2.1) (.ret ⟨O_blend_of_api_Node, ((Sp.ofN v.1 v.2.1), ())⟩), ex := 0 }
def an_blend_of_api_Node : Ann := []
def cx_blend_of_api_Node : Cx := mkCx []
theorem eq_blend_of_api_Node (l : (List Vi.Node)) (r : (Int × Int)) (R : ((p : Pat) × p.V) → Prop) : fnVc (cx_blend_of_api_Node) an_blend_of_api_Node 0 Try.f89 I_blend_of_api_Node [O_blend_of_api_Node] (l, r, ()) R = blend_of_api_Node.vc (fun y0 => R ⟨O_blend_of_api_Node, (y0, ())⟩) l r := by kernel_rfl
theorem fs_blend_of_api_Node : CtrsOk Try.prog [] := trivial
theorem vc_blend_of_api_Node (H : Nat → Entry) (v : c_blend_of_api_Node.inp.V) (r : (p : Pat) × p.V) (h : (c_blend_of_api_Node.body v).Sel H r) : fnVc (cx_blend_of_api_Node) an_blend_of_api_Node 0 Try.f89 c_blend_of_api_Node.inp [O_blend_of_api_Node] v (fun r' => r' = r) := by
  obtain ⟨l, r, ⟨⟩⟩ := v
  obtain ⟨h, rfl⟩ := h
  exact Eq.mpr (eq_blend_of_api_Node l r _) (blend_of_api_Node.ok _ l r h rfl)
theorem ctr_blend_of_api_Node : CtrOk Try.prog 89 c_blend_of_api_Node := ⟨⟨_, Try.func89, by kernel_rfl, by kernel_rfl⟩, fun H v r h => mk_ok _ (fs_blend_of_api_Node) (an := an_blend_of_api_Node) (outs := [O_blend_of_api_Node]) Try.func89 (by decide) (vc_blend_of_api_Node H v r h)⟩
abbrev I_blend_kind_api_Node : Pat := { slots := [(0, .sc [.v (.sl .node), .v (.sl .node), .v (.sl .node), .fn 57 [] []]), (1, .ag (.pair (.int .i64) (.pair (.pair (.int .i64) (.int .i64)) (.pair (.pair (.int .i64) (.int .i64)) (.pair (.int .i64) (.int .i64))))))], ents := [] }
abbrev O_blend_kind_api_Node : Pat := { slots := [(0, .ce (.v (.int .i64)))], ents := [] }
def c_blend_kind_api_Node : Ctr := { k0 := 0, inp := I_blend_kind_api_Node, body := fun v => .need (Sp.kindN.pre v.1 v.2.1 v.2.2.1 v.2.2.2.1) (.ret ⟨O_blend_kind_api_Node, (Sp.kindN v.1 v.2.1 v.2.2.1 v.2.2.2.1, ())⟩), ex := 0 }
def an_blend_kind_api_Node : Ann := []
def cx_blend_kind_api_Node : Cx := mkCx [(89, [c_blend_of_api_Node]), (57, [c_tree_Same])]
theorem eq_blend_kind_api_Node (o : (List Vi.Node)) (a : (List Vi.Node)) (b : (List Vi.Node)) (p : (Int × ((Int × Int) × ((Int × Int) × (Int × Int))))) (R : ((p : Pat) × p.V) → Prop) : fnVc (cx_blend_kind_api_Node) an_blend_kind_api_Node 0 Try.f75 I_blend_kind_api_Node [O_blend_kind_api_Node] (o, a, b, p, ()) R = blend_kind_api_Node.vc (fun y0 => R ⟨O_blend_kind_api_Node, (y0, ())⟩) o a b p := by kernel_rfl
theorem fs_blend_kind_api_Node : CtrsOk Try.prog [(89, [c_blend_of_api_Node]), (57, [c_tree_Same])] := ⟨ctr1 (ctr_blend_of_api_Node), ctr1 (ctr_tree_Same), trivial⟩
theorem vc_blend_kind_api_Node (H : Nat → Entry) (v : c_blend_kind_api_Node.inp.V) (r : (p : Pat) × p.V) (h : (c_blend_kind_api_Node.body v).Sel H r) : fnVc (cx_blend_kind_api_Node) an_blend_kind_api_Node 0 Try.f75 c_blend_kind_api_Node.inp [O_blend_kind_api_Node] v (fun r' => r' = r) := by
  obtain ⟨o, a, b, p, ⟨⟩⟩ := v
  obtain ⟨h, rfl⟩ := h
  exact Eq.mpr (eq_blend_kind_api_Node o a b p _) (blend_kind_api_Node.ok _ o a b p h rfl)
theorem ctr_blend_kind_api_Node : CtrOk Try.prog 75 c_blend_kind_api_Node := ⟨⟨_, Try.func75, by kernel_rfl, by kernel_rfl⟩, fun H v r h => mk_ok _ (fs_blend_kind_api_Node) (an := an_blend_kind_api_Node) (outs := [O_blend_kind_api_Node]) Try.func75 (by decide) (vc_blend_kind_api_Node H v r h)⟩
abbrev I_blend_parts_api_Node_1 : Pat := { slots := [(0, .ce (.v (.int .i64))), (1, .ce (.v (.int .i64))), (2, .ce (.v (.int .i64))), (3, .ce (.ptr 0 0)), (4, .ce (.ptr 1 0)), (5, .ce (.ptr 2 0))], ents := [.box 54 [.v (.int .i64), .v (.int .i64), .v (.int .i64), .v (.int .i64), .v (.int .i64), .v (.int .i64), .v (.int .i64)], .box 98 [.v (.sl .node), .v (.sl .node), .v (.sl .node), .fn 57 [] []], .box 44 [.os 3], .row 54 (.pair (.int .i64) (.pair (.pair (.int .i64) (.int .i64)) (.pair (.pair (.int .i64) (.int .i64)) (.pair (.int .i64) (.int .i64)))))] }
abbrev O_blend_parts_api_Node_1 : Pat := { slots := [], ents := [.box 54 [.v (.int .i64), .v (.int .i64), .v (.int .i64), .v (.int .i64), .v (.int .i64), .v (.int .i64), .v (.int .i64)], .box 98 [.v (.sl .node), .v (.sl .node), .v (.sl .node), .fn 57 [] []], .box 44 [.os 3], .row 54 (.pair (.int .i64) (.pair (.pair (.int .i64) (.int .i64)) (.pair (.pair (.int .i64) (.int .i64)) (.pair (.int .i64) (.int .i64)))))] }
def c_blend_parts_api_Node_1 : Ctr := { k0 := 3, inp := I_blend_parts_api_Node_1, body := fun v => .need (Sp.upToN.pre v.1 v.2.1 v.2.2.1 v.2.2.2.2.1 v.2.2.2.2.2.2.1 v.2.2.2.2.2.2.2.2.1 v.2.2.2.2.2.2.2.2.2.2.1 v.2.2.2.2.2.2.2.2.2.2.2.1 v.2.2.2.2.2.2.2.2.2.2.2.2.1 v.2.2.2.2.2.2.2.2.2.2.2.2.2.1) (.ret ⟨O_blend_parts_api_Node_1, (v.2.2.2.1, v.2.2.2.2.1, v.2.2.2.2.2.1, v.2.2.2.2.2.2.1, v.2.2.2.2.2.2.2.1, v.2.2.2.2.2.2.2.2.1, v.2.2.2.2.2.2.2.2.2.1, v.2.2.2.2.2.2.2.2.2.2.1, v.2.2.2.2.2.2.2.2.2.2.2.1, v.2.2.2.2.2.2.2.2.2.2.2.2.1, Sp.upToN v.1 v.2.1 v.2.2.1 v.2.2.2.2.1 v.2.2.2.2.2.2.1 v.2.2.2.2.2.2.2.2.1 v.2.2.2.2.2.2.2.2.2.2.1 v.2.2.2.2.2.2.2.2.2.2.2.1 v.2.2.2.2.2.2.2.2.2.2.2.2.1 v.2.2.2.2.2.2.2.2.2.2.2.2.2.1, ())⟩), ex := 0 }
def an_blend_parts_api_Node_1 : Ann := []
def cx_blend_parts_api_Node_1 : Cx := mkCx [(75, [c_blend_kind_api_Node])]
theorem eq_blend_parts_api_Node_1 (x : Int) (y : Int) (z : Int) (f0 : Int) (f1 : Int) (f2 : Int) (f3 : Int) (f4 : Int) (f5 : Int) (f6 : Int) (o : (List Vi.Node)) (a : (List Vi.Node)) (b : (List Vi.Node)) (out : (List (Int × ((Int × Int) × ((Int × Int) × (Int × Int)))))) (R : ((p : Pat) × p.V) → Prop) : fnVc (cx_blend_parts_api_Node_1) an_blend_parts_api_Node_1 3 Try.f74 I_blend_parts_api_Node_1 [O_blend_parts_api_Node_1] (x, y, z, f0, f1, f2, f3, f4, f5, f6, o, a, b, out, ()) R = blend_parts_api_Node_1.vc (fun y0 y1 y2 y3 y4 y5 y6 y7 y8 y9 y10 => R ⟨O_blend_parts_api_Node_1, (y0, y1, y2, y3, y4, y5, y6, y7, y8, y9, y10, ())⟩) x y z f0 f1 f2 f3 f4 f5 f6 o a b out := by kernel_rfl
theorem fs_blend_parts_api_Node_1 : CtrsOk Try.prog [(75, [c_blend_kind_api_Node])] := ⟨ctr1 (ctr_blend_kind_api_Node), trivial⟩
theorem vc_blend_parts_api_Node_1 (H : Nat → Entry) (v : c_blend_parts_api_Node_1.inp.V) (r : (p : Pat) × p.V) (h : (c_blend_parts_api_Node_1.body v).Sel H r) : fnVc (cx_blend_parts_api_Node_1) an_blend_parts_api_Node_1 3 Try.f74 c_blend_parts_api_Node_1.inp [O_blend_parts_api_Node_1] v (fun r' => r' = r) := by
  obtain ⟨x, y, z, f0, f1, f2, f3, f4, f5, f6, o, a, b, out, ⟨⟩⟩ := v
  obtain ⟨h, rfl⟩ := h
  exact Eq.mpr (eq_blend_parts_api_Node_1 x y z f0 f1 f2 f3 f4 f5 f6 o a b out _) (blend_parts_api_Node_1.ok _ x y z f0 f1 f2 f3 f4 f5 f6 o a b out h rfl)
theorem ctr_blend_parts_api_Node_1 : CtrOk Try.prog 74 c_blend_parts_api_Node_1 := ⟨⟨_, Try.func74, by kernel_rfl, by kernel_rfl⟩, fun H v r h => mk_ok _ (fs_blend_parts_api_Node_1) (an := an_blend_parts_api_Node_1) (outs := [O_blend_parts_api_Node_1]) Try.func74 (by decide) (vc_blend_parts_api_Node_1 H v r h)⟩
abbrev I_blend_parts_api_Node : Pat := { slots := [(0, .sc [.v (.sl .node), .v (.sl .node), .v (.sl .node), .fn 57 [] []]), (1, .ce (.v (.sl (.pair (.int .i64) (.pair (.int .i64) .bool))))), (2, .ce (.v (.sl (.pair (.int .i64) (.pair (.int .i64) .bool)))))], ents := [] }
abbrev O_blend_parts_api_Node : Pat := { slots := [(0, .ce (.v (.sl (.pair (.int .i64) (.pair (.pair (.int .i64) (.int .i64)) (.pair (.pair (.int .i64) (.int .i64)) (.pair (.int .i64) (.int .i64))))))))], ents := [] }
def c_blend_parts_api_Node : Ctr := { k0 := 0, inp := I_blend_parts_api_Node, body := fun v => .need (Sp.partsN.pre v.1 v.2.1 v.2.2.1 v.2.2.2.1 v.2.2.2.2.1) (.ret ⟨O_blend_parts_api_Node, (Sp.partsN v.1 v.2.1 v.2.2.1 v.2.2.2.1 v.2.2.2.2.1, ())⟩), ex := 0 }
def an_blend_parts_api_Node : Ann := [(5, { slots := [(1, .ce (.v (.sl (.pair (.int .i64) (.pair (.int .i64) .bool))))), (2, .ce (.v (.sl (.pair (.int .i64) (.pair (.int .i64) .bool))))), (3, .ce (.ptr 0 0)), (7, .ce (.ptr 1 0)), (8, .ce (.ptr 3 0)), (9, .ce (.fn 74 [] [3, 0, 1])), (16, .ce (.v (.int .i64))), (17, .ce (.v (.int .i64)))], ents := [.box 98 [.v (.sl .node), .v (.sl .node), .v (.sl .node), .fn 57 [] []], .box 44 [.os 2], .row 54 (.pair (.int .i64) (.pair (.pair (.int .i64) (.int .i64)) (.pair (.pair (.int .i64) (.int .i64)) (.pair (.int .i64) (.int .i64))))), .box 54 [.v (.int .i64), .v (.int .i64), .v (.int .i64), .v (.int .i64), .v (.int .i64), .v (.int .i64), .v (.int .i64)]] })]
def cx_blend_parts_api_Node : Cx := mkCx [(71, [c_blend_fellow]), (74, [c_blend_parts_api_Node_1])]
theorem eq_blend_parts_api_Node (o : (List Vi.Node)) (a : (List Vi.Node)) (b : (List Vi.Node)) (ours : (List (Int × (Int × Bool)))) (theirs : (List (Int × (Int × Bool)))) (R : ((p : Pat) × p.V) → Prop) : fnVc (cx_blend_parts_api_Node) an_blend_parts_api_Node 0 Try.f56 I_blend_parts_api_Node [O_blend_parts_api_Node] (o, a, b, ours, theirs, ()) R = blend_parts_api_Node.vc (fun y0 => R ⟨O_blend_parts_api_Node, (y0, ())⟩) o a b ours theirs := by kernel_rfl
theorem fs_blend_parts_api_Node : CtrsOk Try.prog [(71, [c_blend_fellow]), (74, [c_blend_parts_api_Node_1])] := ⟨ctr1 (ctr_blend_fellow), ctr1 (ctr_blend_parts_api_Node_1), trivial⟩
theorem vc_blend_parts_api_Node (H : Nat → Entry) (v : c_blend_parts_api_Node.inp.V) (r : (p : Pat) × p.V) (h : (c_blend_parts_api_Node.body v).Sel H r) : fnVc (cx_blend_parts_api_Node) an_blend_parts_api_Node 0 Try.f56 c_blend_parts_api_Node.inp [O_blend_parts_api_Node] v (fun r' => r' = r) := by
  obtain ⟨o, a, b, ours, theirs, ⟨⟩⟩ := v
  obtain ⟨h, rfl⟩ := h
  exact Eq.mpr (eq_blend_parts_api_Node o a b ours theirs _) (blend_parts_api_Node.ok _ o a b ours theirs h rfl)
theorem ctr_blend_parts_api_Node : CtrOk Try.prog 56 c_blend_parts_api_Node := ⟨⟨_, Try.func56, by kernel_rfl, by kernel_rfl⟩, fun H v r h => mk_ok _ (fs_blend_parts_api_Node) (an := an_blend_parts_api_Node) (outs := [O_blend_parts_api_Node]) Try.func56 (by decide) (vc_blend_parts_api_Node H v r h)⟩
abbrev I_blend_Nodes : Pat := { slots := [(0, .ce (.v (.sl .node))), (1, .ce (.v (.sl .node))), (2, .ce (.v (.sl .node)))], ents := [] }
abbrev O_blend_Nodes : Pat := { slots := [(0, .ce (.v (.sl (.pair (.int .i64) (.pair (.pair (.int .i64) (.int .i64)) (.pair (.pair (.int .i64) (.int .i64)) (.pair (.int .i64) (.int .i64))))))))], ents := [] }
def c_blend_Nodes : Ctr := { k0 := 0, inp := I_blend_Nodes, body := fun v => .need (Sp.blendN.pre v.1 v.2.1 v.2.2.1) (.ret ⟨O_blend_Nodes, ((Sp.blendN v.1 v.2.1 v.2.2.1), ())⟩), ex := 0 }
def an_blend_Nodes : Ann := []
def cx_blend_Nodes : Cx := mkCx [(57, [c_tree_Same]), (18, [c_match_Lists]), (56, [c_blend_parts_api_Node])]
theorem eq_blend_Nodes (o : (List Vi.Node)) (a : (List Vi.Node)) (b : (List Vi.Node)) (R : ((p : Pat) × p.V) → Prop) : fnVc (cx_blend_Nodes) an_blend_Nodes 0 Try.f31 I_blend_Nodes [O_blend_Nodes] (o, a, b, ()) R = blend_Nodes.vc (fun y0 => R ⟨O_blend_Nodes, (y0, ())⟩) o a b := by kernel_rfl
theorem fs_blend_Nodes : CtrsOk Try.prog [(57, [c_tree_Same]), (18, [c_match_Lists]), (56, [c_blend_parts_api_Node])] := ⟨ctr1 (ctr_tree_Same), ctr1 (ctr_match_Lists), ctr1 (ctr_blend_parts_api_Node), trivial⟩
theorem vc_blend_Nodes (H : Nat → Entry) (v : c_blend_Nodes.inp.V) (r : (p : Pat) × p.V) (h : (c_blend_Nodes.body v).Sel H r) : fnVc (cx_blend_Nodes) an_blend_Nodes 0 Try.f31 c_blend_Nodes.inp [O_blend_Nodes] v (fun r' => r' = r) := by
  obtain ⟨o, a, b, ⟨⟩⟩ := v
  obtain ⟨h, rfl⟩ := h
  exact Eq.mpr (eq_blend_Nodes o a b _) (blend_Nodes.ok _ o a b h rfl)
theorem ctr_blend_Nodes : CtrOk Try.prog 31 c_blend_Nodes := ⟨⟨_, Try.func31, by kernel_rfl, by kernel_rfl⟩, fun H v r h => mk_ok _ (fs_blend_Nodes) (an := an_blend_Nodes) (outs := [O_blend_Nodes]) Try.func31 (by decide) (vc_blend_Nodes H v r h)⟩
end Vs
