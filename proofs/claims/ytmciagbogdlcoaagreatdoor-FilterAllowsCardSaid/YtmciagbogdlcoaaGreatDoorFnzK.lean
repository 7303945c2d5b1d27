/- Functions held against what they tell. Written by a program of this session. -/
import Derived.Test.YtmciagbogdlcoaaGreatDoorPlK
import Derived.Test.YtmciagbogdlcoaaGreatDoorViThree
import Derived.Test.YtmciagbogdlcoaaGreatDoorFnzH
set_option linter.unnecessarySimpa false
set_option linter.unusedVariables false
set_option linter.unusedSectionVars false
set_option linter.unusedSimpArgs false
set_option autoImplicit false
set_option linter.unusedVariables false
set_option maxRecDepth 100000
attribute [local irreducible] Vi.fnVc
namespace Vs
open Go Vi Go.Proofs
abbrev I_rectoplain_Attrs : Pat := { slots := [(0, .ce (.v (.sl (.pair .str .str)))), (1, .ce (.v (.sl (.pair .str .str))))], ents := [] }
abbrev O_rectoplain_Attrs : Pat := { slots := [(0, .ce (.v .bool))], ents := [] }
def c_rectoplain_Attrs : Ctr := { k0 := 0, inp := I_rectoplain_Attrs, body := fun v => .need (Sp.eqAt.pre v.1 v.2.1) (.ret ⟨O_rectoplain_Attrs, ((Sp.eqAt v.1 v.2.1), ())⟩), ex := 0 }
def an_rectoplain_Attrs : Ann := [(2, { slots := [(0, .ce (.v (.sl (.pair .str .str)))), (1, .ce (.v (.sl (.pair .str .str)))), (7, .ce (.v (.int .i64))), (8, .ce (.v (.int .i64)))], ents := [] })]
def cx_rectoplain_Attrs : Cx := mkCx []
theorem eq_rectoplain_Attrs (a : (List (Str × Str))) (b : (List (Str × Str))) (R : ((p : Pat) × p.V) → Prop) : fnVc (cx_rectoplain_Attrs) an_rectoplain_Attrs 0 Tryz.f41 I_rectoplain_Attrs [O_rectoplain_Attrs] (a, b, ()) R = rectoplain_Attrs.vc (fun y0 => R ⟨O_rectoplain_Attrs, (y0, ())⟩) a b := by kernel_rfl
theorem fs_rectoplain_Attrs : CtrsOk Tryz.prog [] gl := trivial
theorem vc_rectoplain_Attrs (H : Nat → Entry) (v : c_rectoplain_Attrs.inp.V) (r : (p : Pat) × p.V) (h : (c_rectoplain_Attrs.body v).Sel H r) : fnVc (cx_rectoplain_Attrs) an_rectoplain_Attrs 0 Tryz.f41 c_rectoplain_Attrs.inp [O_rectoplain_Attrs] v (fun r' => r' = r) := by
  obtain ⟨a, b, ⟨⟩⟩ := v
  obtain ⟨h, rfl⟩ := h
  exact Eq.mpr (eq_rectoplain_Attrs a b _) (rectoplain_Attrs.ok _ a b h rfl)
theorem ctr_rectoplain_Attrs : CtrOk Tryz.prog 41 c_rectoplain_Attrs gl := ⟨⟨_, Tryz.func41, by kernel_rfl, by kernel_rfl⟩, fun H v r h => mk_ok _ (fs_rectoplain_Attrs) (an := an_rectoplain_Attrs) (outs := [O_rectoplain_Attrs]) Tryz.func41 (by decide) (vc_rectoplain_Attrs H v r h)⟩
abbrev I_rectoplain_Node : Pat := { slots := [(0, .ag .node), (1, .ag .node)], ents := [] }
abbrev O_rectoplain_Node : Pat := { slots := [(0, .ce (.v .bool))], ents := [] }
def r_rectoplain_Node (nn : Nat) : Ctr := { k0 := 0, inp := I_rectoplain_Node, body := fun v => .need (Sp.eqNd.pre v.1 v.2.1 ∧ Sp.mNd v.1 v.2.1 < nn) (.ret ⟨O_rectoplain_Node, ((Sp.eqNd v.1 v.2.1), ())⟩), ex := 0 }
def an_rectoplain_Node : Ann := []
abbrev I_rectoplain_Nodes : Pat := { slots := [(0, .ce (.v (.sl .node))), (1, .ce (.v (.sl .node)))], ents := [] }
abbrev O_rectoplain_Nodes : Pat := { slots := [(0, .ce (.v .bool))], ents := [] }
def r_rectoplain_Nodes (nn : Nat) : Ctr := { k0 := 0, inp := I_rectoplain_Nodes, body := fun v => .need (Sp.eqNs.pre v.1 v.2.1 ∧ Sp.mNs v.1 v.2.1 < nn) (.ret ⟨O_rectoplain_Nodes, ((Sp.eqNs v.1 v.2.1), ())⟩), ex := 0 }
def c_rectoplain_Nodes : Ctr := { k0 := 0, inp := I_rectoplain_Nodes, body := fun v => .need (Sp.eqNs.pre v.1 v.2.1) (.ret ⟨O_rectoplain_Nodes, ((Sp.eqNs v.1 v.2.1), ())⟩), ex := 0 }
def an_rectoplain_Nodes : Ann := [(2, { slots := [(0, .ce (.v (.sl .node))), (1, .ce (.v (.sl .node))), (7, .ce (.v (.int .i64))), (8, .ce (.v (.int .i64)))], ents := [] })]
def cx_rectoplain_Node (nn : Nat) : Cx := mkCx [(41, [c_rectoplain_Attrs]), (12, [r_rectoplain_Nodes nn])]
def cx_rectoplain_Nodes (nn : Nat) : Cx := mkCx [(23, [r_rectoplain_Node nn])]
theorem eq_rectoplain_Node (nn : Nat) (a : Vi.Node) (b : Vi.Node) (R : ((p : Pat) × p.V) → Prop) : fnVc (cx_rectoplain_Node nn) an_rectoplain_Node 0 Tryz.f23 I_rectoplain_Node [O_rectoplain_Node] (a, b, ()) R = rectoplain_Node.vc (fun y0 => R ⟨O_rectoplain_Node, (y0, ())⟩) nn a b := by kernel_rfl
theorem fs_rectoplain_Node (nn : Nat) (ih_rectoplain_Nodes : CtrOk Tryz.prog 12 (r_rectoplain_Nodes nn) gl) : CtrsOk Tryz.prog [(41, [c_rectoplain_Attrs]), (12, [r_rectoplain_Nodes nn])] gl := ⟨(ctr1 (ctr_rectoplain_Attrs)), (ctr1 ih_rectoplain_Nodes), trivial⟩
theorem eq_rectoplain_Nodes (nn : Nat) (a : (List Vi.Node)) (b : (List Vi.Node)) (R : ((p : Pat) × p.V) → Prop) : fnVc (cx_rectoplain_Nodes nn) an_rectoplain_Nodes 0 Tryz.f12 I_rectoplain_Nodes [O_rectoplain_Nodes] (a, b, ()) R = rectoplain_Nodes.vc (fun y0 => R ⟨O_rectoplain_Nodes, (y0, ())⟩) nn a b := by kernel_rfl
theorem fs_rectoplain_Nodes (nn : Nat) (ih_rectoplain_Node : CtrOk Tryz.prog 23 (r_rectoplain_Node nn) gl) : CtrsOk Tryz.prog [(23, [r_rectoplain_Node nn])] gl := ⟨(ctr1 ih_rectoplain_Node), trivial⟩
theorem grp_node (nn : Nat) : CtrOk Tryz.prog 23 (r_rectoplain_Node nn) gl ∧ CtrOk Tryz.prog 12 (r_rectoplain_Nodes nn) gl := by
  induction nn with
  | zero => exact ⟨⟨⟨_, Tryz.func23, by kernel_rfl, by kernel_rfl⟩, fun H v r h => absurd h.1.2 (Nat.not_lt_zero _)⟩, ⟨⟨_, Tryz.func12, by kernel_rfl, by kernel_rfl⟩, fun H v r h => absurd h.1.2 (Nat.not_lt_zero _)⟩⟩
  | succ nn ih =>
  obtain ⟨ih_rectoplain_Node, ih_rectoplain_Nodes⟩ := ih
  refine ⟨⟨⟨_, Tryz.func23, by kernel_rfl, by kernel_rfl⟩, ?_⟩, ⟨⟨_, Tryz.func12, by kernel_rfl, by kernel_rfl⟩, ?_⟩⟩
  · intro H v r h
    obtain ⟨a, b, ⟨⟩⟩ := v
    obtain ⟨h, rfl⟩ := h
    exact mk_ok _ (fs_rectoplain_Node nn ih_rectoplain_Nodes) (an := an_rectoplain_Node) (outs := [O_rectoplain_Node]) Tryz.func23 (Nat.le_of_ble_eq_true rfl) (Eq.mpr (eq_rectoplain_Node nn a b _) (rectoplain_Node.ok nn _ a b h rfl))
  · intro H v r h
    obtain ⟨a, b, ⟨⟩⟩ := v
    obtain ⟨h, rfl⟩ := h
    exact mk_ok _ (fs_rectoplain_Nodes nn ih_rectoplain_Node) (an := an_rectoplain_Nodes) (outs := [O_rectoplain_Nodes]) Tryz.func12 (Nat.le_of_ble_eq_true rfl) (Eq.mpr (eq_rectoplain_Nodes nn a b _) (rectoplain_Nodes.ok nn _ a b h rfl))

theorem ctr_rectoplain_Nodes : CtrOk Tryz.prog 12 c_rectoplain_Nodes gl := ⟨⟨_, Tryz.func12, by kernel_rfl, by kernel_rfl⟩, fun H v r h => ((grp_node (Sp.mNs v.1 v.2.1 + 1)).2.2 H v r ⟨⟨h.1, Nat.lt_succ_self _⟩, h.2⟩).body⟩
abbrev I_rectoref02_Is : Pat := { slots := [(0, .ce (.v (.int .i64)))], ents := [] }
abbrev O_rectoref02_Is : Pat := { slots := [(0, .ce (.v .bool))], ents := [] }
def c_rectoref02_Is : Ctr := { k0 := 0, inp := I_rectoref02_Is, body := fun v => .ret ⟨O_rectoref02_Is, ((Sp.isC v.1), ())⟩, ex := 0 }
def an_rectoref02_Is : Ann := []
def cx_rectoref02_Is : Cx := mkCx []
theorem eq_rectoref02_Is (c : Int) (R : ((p : Pat) × p.V) → Prop) : fnVc (cx_rectoref02_Is) an_rectoref02_Is 0 Tryz.f85 I_rectoref02_Is [O_rectoref02_Is] (c, ()) R = rectoref02_Is.vc (fun y0 => R ⟨O_rectoref02_Is, (y0, ())⟩) c := by kernel_rfl
theorem fs_rectoref02_Is : CtrsOk Tryz.prog [] gl := trivial
theorem vc_rectoref02_Is (H : Nat → Entry) (v : c_rectoref02_Is.inp.V) (r : (p : Pat) × p.V) (h : (c_rectoref02_Is.body v).Sel H r) : fnVc (cx_rectoref02_Is) an_rectoref02_Is 0 Tryz.f85 c_rectoref02_Is.inp [O_rectoref02_Is] v (fun r' => r' = r) := by
  obtain ⟨c, ⟨⟩⟩ := v
  obtain rfl := h
  exact Eq.mpr (eq_rectoref02_Is c _) (rectoref02_Is.ok _ c  rfl)
theorem ctr_rectoref02_Is : CtrOk Tryz.prog 85 c_rectoref02_Is gl := ⟨⟨_, Tryz.func85, by kernel_rfl, by kernel_rfl⟩, fun H v r h => mk_ok _ (fs_rectoref02_Is) (an := an_rectoref02_Is) (outs := [O_rectoref02_Is]) Tryz.func85 (by decide) (vc_rectoref02_Is H v r h)⟩
abbrev I_rectoref02_low : Pat := { slots := [(0, .ce (.v .str)), (1, .ce (.v (.int .i64)))], ents := [] }
abbrev O_rectoref02_low : Pat := { slots := [(0, .ce (.v (.int .i64)))], ents := [] }
def c_rectoref02_low : Ctr := { k0 := 0, inp := I_rectoref02_low, body := fun v => .need (Sp.lowS.pre v.1 v.2.1) (.ret ⟨O_rectoref02_low, ((Sp.lowS v.1 v.2.1), ())⟩), ex := 0 }
def an_rectoref02_low : Ann := []
def cx_rectoref02_low : Cx := mkCx []
theorem eq_rectoref02_low (s : Str) (i : Int) (R : ((p : Pat) × p.V) → Prop) : fnVc (cx_rectoref02_low) an_rectoref02_low 0 Tryz.f84 I_rectoref02_low [O_rectoref02_low] (s, i, ()) R = rectoref02_low.vc (fun y0 => R ⟨O_rectoref02_low, (y0, ())⟩) s i := by kernel_rfl
theorem fs_rectoref02_low : CtrsOk Tryz.prog [] gl := trivial
theorem vc_rectoref02_low (H : Nat → Entry) (v : c_rectoref02_low.inp.V) (r : (p : Pat) × p.V) (h : (c_rectoref02_low.body v).Sel H r) : fnVc (cx_rectoref02_low) an_rectoref02_low 0 Tryz.f84 c_rectoref02_low.inp [O_rectoref02_low] v (fun r' => r' = r) := by
  obtain ⟨s, i, ⟨⟩⟩ := v
  obtain ⟨h, rfl⟩ := h
  exact Eq.mpr (eq_rectoref02_low s i _) (rectoref02_low.ok _ s i h rfl)
theorem ctr_rectoref02_low : CtrOk Tryz.prog 84 c_rectoref02_low gl := ⟨⟨_, Tryz.func84, by kernel_rfl, by kernel_rfl⟩, fun H v r h => mk_ok _ (fs_rectoref02_low) (an := an_rectoref02_low) (outs := [O_rectoref02_low]) Tryz.func84 (by decide) (vc_rectoref02_low H v r h)⟩
abbrev I_rectoref02_Bytes : Pat := { slots := [(0, .ce (.v (.int .i64)))], ents := [] }
abbrev O_rectoref02_Bytes : Pat := { slots := [(0, .ce (.v .str))], ents := [] }
def r_rectoref02_Bytes (nn : Nat) : Ctr := { k0 := 0, inp := I_rectoref02_Bytes, body := fun v => .need (Sp.any v.1 ∧ Sp.mBy v.1 < nn) (.ret ⟨O_rectoref02_Bytes, ((Sp.bytesC v.1), ())⟩), ex := 0 }
def c_rectoref02_Bytes : Ctr := { k0 := 0, inp := I_rectoref02_Bytes, body := fun v => .need (Sp.any v.1) (.ret ⟨O_rectoref02_Bytes, ((Sp.bytesC v.1), ())⟩), ex := 0 }
def an_rectoref02_Bytes : Ann := []
def cx_rectoref02_Bytes (nn : Nat) : Cx := mkCx [(85, [c_rectoref02_Is]), (86, [r_rectoref02_Bytes nn])]
theorem eq_rectoref02_Bytes (nn : Nat) (c : Int) (R : ((p : Pat) × p.V) → Prop) : fnVc (cx_rectoref02_Bytes nn) an_rectoref02_Bytes 0 Tryz.f86 I_rectoref02_Bytes [O_rectoref02_Bytes] (c, ()) R = rectoref02_Bytes.vc (fun y0 => R ⟨O_rectoref02_Bytes, (y0, ())⟩) nn c := by kernel_rfl
theorem fs_rectoref02_Bytes (nn : Nat) (ih_rectoref02_Bytes : CtrOk Tryz.prog 86 (r_rectoref02_Bytes nn) gl) : CtrsOk Tryz.prog [(85, [c_rectoref02_Is]), (86, [r_rectoref02_Bytes nn])] gl := ⟨(ctr1 (ctr_rectoref02_Is)), (ctr1 ih_rectoref02_Bytes), trivial⟩
theorem grp_by (nn : Nat) : CtrOk Tryz.prog 86 (r_rectoref02_Bytes nn) gl := by
  induction nn with
  | zero => exact ⟨⟨_, Tryz.func86, by kernel_rfl, by kernel_rfl⟩, fun H v r h => absurd h.1.2 (Nat.not_lt_zero _)⟩
  | succ nn ih =>
  have ih_rectoref02_Bytes := ih
  refine ⟨⟨_, Tryz.func86, by kernel_rfl, by kernel_rfl⟩, ?_⟩
  · intro H v r h
    obtain ⟨c, ⟨⟩⟩ := v
    obtain ⟨h, rfl⟩ := h
    exact mk_ok _ (fs_rectoref02_Bytes nn ih_rectoref02_Bytes) (an := an_rectoref02_Bytes) (outs := [O_rectoref02_Bytes]) Tryz.func86 (Nat.le_of_ble_eq_true rfl) (Eq.mpr (eq_rectoref02_Bytes nn c _) (rectoref02_Bytes.ok nn _ c h rfl))

theorem ctr_rectoref02_Bytes : CtrOk Tryz.prog 86 c_rectoref02_Bytes gl := ⟨⟨_, Tryz.func86, by kernel_rfl, by kernel_rfl⟩, fun H v r h => ((grp_by (Sp.mBy v.1 + 1)).2 H v r ⟨⟨h.1, Nat.lt_succ_self _⟩, h.2⟩).body⟩
abbrev I_rectoref02_At : Pat := { slots := [(0, .ce (.v .str)), (1, .ce (.v (.int .i64)))], ents := [] }
abbrev O_rectoref02_At : Pat := { slots := [(0, .ag (.pair (.int .i64) (.pair (.int .i64) .bool)))], ents := [] }
def c_rectoref02_At : Ctr := { k0 := 0, inp := I_rectoref02_At, body := fun v => .need (Sp.atG.pre v.1 v.2.1) (.ret ⟨O_rectoref02_At, ((Sp.atG v.1 v.2.1), ())⟩), ex := 0 }
def an_rectoref02_At : Ann := []
def cx_rectoref02_At : Cx := mkCx [(84, [c_rectoref02_low]), (85, [c_rectoref02_Is]), (86, [c_rectoref02_Bytes])]
theorem eq_rectoref02_At (s : Str) (i : Int) (R : ((p : Pat) × p.V) → Prop) : fnVc (cx_rectoref02_At) an_rectoref02_At 0 Tryz.f77 I_rectoref02_At [O_rectoref02_At] (s, i, ()) R = rectoref02_At.vc (fun y0 => R ⟨O_rectoref02_At, (y0, ())⟩) s i := by kernel_rfl
theorem fs_rectoref02_At : CtrsOk Tryz.prog [(84, [c_rectoref02_low]), (85, [c_rectoref02_Is]), (86, [c_rectoref02_Bytes])] gl := ⟨ctr1 (ctr_rectoref02_low), ctr1 (ctr_rectoref02_Is), ctr1 (ctr_rectoref02_Bytes), trivial⟩
theorem vc_rectoref02_At (H : Nat → Entry) (v : c_rectoref02_At.inp.V) (r : (p : Pat) × p.V) (h : (c_rectoref02_At.body v).Sel H r) : fnVc (cx_rectoref02_At) an_rectoref02_At 0 Tryz.f77 c_rectoref02_At.inp [O_rectoref02_At] v (fun r' => r' = r) := by
  obtain ⟨s, i, ⟨⟩⟩ := v
  obtain ⟨h, rfl⟩ := h
  exact Eq.mpr (eq_rectoref02_At s i _) (rectoref02_At.ok _ s i h rfl)
theorem ctr_rectoref02_At : CtrOk Tryz.prog 77 c_rectoref02_At gl := ⟨⟨_, Tryz.func77, by kernel_rfl, by kernel_rfl⟩, fun H v r h => mk_ok _ (fs_rectoref02_At) (an := an_rectoref02_At) (outs := [O_rectoref02_At]) Tryz.func77 (by decide) (vc_rectoref02_At H v r h)⟩
abbrev I_rectoref02_Of : Pat := { slots := [(0, .ce (.v .str))], ents := [] }
abbrev O_rectoref02_Of : Pat := { slots := [(0, .ag (.pair (.sl (.int .i64)) .bool))], ents := [] }
def c_rectoref02_Of : Ctr := { k0 := 0, inp := I_rectoref02_Of, body := fun v => .need (Sp.ofS.pre v.1) (.ret ⟨O_rectoref02_Of, ((Sp.ofS v.1), ())⟩), ex := 0 }
def an_rectoref02_Of : Ann := [(3, { slots := [(0, .ce (.v .str)), (2, .ce (.ptr 0 0)), (3, .ce (.ptr 2 0)), (4, .ce (.v (.int .i64)))], ents := [.box 104 [.os 1, .v .bool], .row 3 (.int .i64), .box 104 [.os 3, .v .bool], .row 3 (.int .i64)] })]
def cx_rectoref02_Of : Cx := mkCx [(77, [c_rectoref02_At])]
theorem eq_rectoref02_Of (s : Str) (R : ((p : Pat) × p.V) → Prop) : fnVc (cx_rectoref02_Of) an_rectoref02_Of 0 Tryz.f62 I_rectoref02_Of [O_rectoref02_Of] (s, ()) R = rectoref02_Of.vc (fun y0 => R ⟨O_rectoref02_Of, (y0, ())⟩) s := by kernel_rfl
theorem fs_rectoref02_Of : CtrsOk Tryz.prog [(77, [c_rectoref02_At])] gl := ⟨ctr1 (ctr_rectoref02_At), trivial⟩
theorem vc_rectoref02_Of (H : Nat → Entry) (v : c_rectoref02_Of.inp.V) (r : (p : Pat) × p.V) (h : (c_rectoref02_Of.body v).Sel H r) : fnVc (cx_rectoref02_Of) an_rectoref02_Of 0 Tryz.f62 c_rectoref02_Of.inp [O_rectoref02_Of] v (fun r' => r' = r) := by
  obtain ⟨s, ⟨⟩⟩ := v
  obtain ⟨h, rfl⟩ := h
  exact Eq.mpr (eq_rectoref02_Of s _) (rectoref02_Of.ok _ s h rfl)
theorem ctr_rectoref02_Of : CtrOk Tryz.prog 62 c_rectoref02_Of gl := ⟨⟨_, Tryz.func62, by kernel_rfl, by kernel_rfl⟩, fun H v r h => mk_ok _ (fs_rectoref02_Of) (an := an_rectoref02_Of) (outs := [O_rectoref02_Of]) Tryz.func62 (by decide) (vc_rectoref02_Of H v r h)⟩
abbrev I_rectoref06_Good : Pat := { slots := [(0, .ce (.v .str))], ents := [] }
abbrev O_rectoref06_Good : Pat := { slots := [(0, .ce (.v .bool))], ents := [] }
def c_rectoref06_Good : Ctr := { k0 := 0, inp := I_rectoref06_Good, body := fun v => .need (Sp.ofS.pre v.1) (.ret ⟨O_rectoref06_Good, ((Sp.goodS v.1), ())⟩), ex := 0 }
def an_rectoref06_Good : Ann := [(2, { slots := [(0, .ce (.v .str)), (3, .ce (.v (.int .i64)))], ents := [] })]
def cx_rectoref06_Good : Cx := mkCx [(62, [c_rectoref02_Of])]
theorem eq_rectoref06_Good (s : Str) (R : ((p : Pat) × p.V) → Prop) : fnVc (cx_rectoref06_Good) an_rectoref06_Good 0 Tryz.f43 I_rectoref06_Good [O_rectoref06_Good] (s, ()) R = rectoref06_Good.vc (fun y0 => R ⟨O_rectoref06_Good, (y0, ())⟩) s := by kernel_rfl
theorem fs_rectoref06_Good : CtrsOk Tryz.prog [(62, [c_rectoref02_Of])] gl := ⟨ctr1 (ctr_rectoref02_Of), trivial⟩
theorem vc_rectoref06_Good (H : Nat → Entry) (v : c_rectoref06_Good.inp.V) (r : (p : Pat) × p.V) (h : (c_rectoref06_Good.body v).Sel H r) : fnVc (cx_rectoref06_Good) an_rectoref06_Good 0 Tryz.f43 c_rectoref06_Good.inp [O_rectoref06_Good] v (fun r' => r' = r) := by
  obtain ⟨s, ⟨⟩⟩ := v
  obtain ⟨h, rfl⟩ := h
  exact Eq.mpr (eq_rectoref06_Good s _) (rectoref06_Good.ok _ s h rfl)
theorem ctr_rectoref06_Good : CtrOk Tryz.prog 43 c_rectoref06_Good gl := ⟨⟨_, Tryz.func43, by kernel_rfl, by kernel_rfl⟩, fun H v r h => mk_ok _ (fs_rectoref06_Good) (an := an_rectoref06_Good) (outs := [O_rectoref06_Good]) Tryz.func43 (by decide) (vc_rectoref06_Good H v r h)⟩
abbrev I_rectoref06_Wrong : Pat := { slots := [(0, .ce (.v .str)), (1, .ce (.v (.sl (.pair .str .str))))], ents := [] }
abbrev O_rectoref06_Wrong : Pat := { slots := [(0, .ce (.v (.int .i64)))], ents := [] }
def c_rectoref06_Wrong : Ctr := { k0 := 0, inp := I_rectoref06_Wrong, body := fun v => .need (Sp.wrongT.pre v.1 v.2.1) (.ret ⟨O_rectoref06_Wrong, ((Sp.wrongT v.1 v.2.1), ())⟩), ex := 0 }
def an_rectoref06_Wrong : Ann := [(4, { slots := [(1, .ce (.v (.sl (.pair .str .str)))), (14, .ce (.v (.sl (.pair .str .str)))), (15, .ce (.v (.int .i64))), (16, .ce (.v (.int .i64)))], ents := [] }), (10, { slots := [(1, .ce (.v (.sl (.pair .str .str)))), (31, .ce (.v (.sl (.pair .str .str)))), (32, .ce (.v (.int .i64))), (33, .ce (.v (.int .i64)))], ents := [] }), (13, { slots := [(1, .ce (.v (.sl (.pair .str .str)))), (7, .ce (.v (.int .i64))), (8, .ce (.ptr 0 0)), (31, .ce (.v (.sl (.pair .str .str)))), (32, .ce (.v (.int .i64))), (33, .ce (.v (.int .i64))), (38, .ce (.v (.sl (.pair .str .str)))), (39, .ce (.v (.int .i64))), (40, .ce (.v (.int .i64)))], ents := [.box 65 [.v .str, .v .str]] })]
def cx_rectoref06_Wrong : Cx := mkCx [(63, [c_rectoref06_Name]), (43, [c_rectoref06_Good])]
theorem eq_rectoref06_Wrong (name : Str) (attrs : (List (Str × Str))) (R : ((p : Pat) × p.V) → Prop) : fnVc (cx_rectoref06_Wrong) an_rectoref06_Wrong 0 Tryz.f44 I_rectoref06_Wrong [O_rectoref06_Wrong] (name, attrs, ()) R = rectoref06_Wrong.vc (fun y0 => R ⟨O_rectoref06_Wrong, (y0, ())⟩) name attrs := by kernel_rfl
theorem fs_rectoref06_Wrong : CtrsOk Tryz.prog [(63, [c_rectoref06_Name]), (43, [c_rectoref06_Good])] gl := ⟨ctr1 (ctr_rectoref06_Name), ctr1 (ctr_rectoref06_Good), trivial⟩
theorem vc_rectoref06_Wrong (H : Nat → Entry) (v : c_rectoref06_Wrong.inp.V) (r : (p : Pat) × p.V) (h : (c_rectoref06_Wrong.body v).Sel H r) : fnVc (cx_rectoref06_Wrong) an_rectoref06_Wrong 0 Tryz.f44 c_rectoref06_Wrong.inp [O_rectoref06_Wrong] v (fun r' => r' = r) := by
  obtain ⟨name, attrs, ⟨⟩⟩ := v
  obtain ⟨h, rfl⟩ := h
  exact Eq.mpr (eq_rectoref06_Wrong name attrs _) (rectoref06_Wrong.ok _ name attrs h rfl)
theorem ctr_rectoref06_Wrong : CtrOk Tryz.prog 44 c_rectoref06_Wrong gl := ⟨⟨_, Tryz.func44, by kernel_rfl, by kernel_rfl⟩, fun H v r h => mk_ok _ (fs_rectoref06_Wrong) (an := an_rectoref06_Wrong) (outs := [O_rectoref06_Wrong]) Tryz.func44 (by decide) (vc_rectoref06_Wrong H v r h)⟩
abbrev I_rectoref08_leaf : Pat := { slots := [(0, .ag .node)], ents := [] }
abbrev O_rectoref08_leaf : Pat := { slots := [(0, .ce (.v .bool))], ents := [] }
def c_rectoref08_leaf : Ctr := { k0 := 0, inp := I_rectoref08_leaf, body := fun v => .ret ⟨O_rectoref08_leaf, ((Sp.leafN v.1), ())⟩, ex := 0 }
def an_rectoref08_leaf : Ann := []
def cx_rectoref08_leaf : Cx := mkCx []
theorem eq_rectoref08_leaf (n : Vi.Node) (R : ((p : Pat) × p.V) → Prop) : fnVc (cx_rectoref08_leaf) an_rectoref08_leaf 0 Tryz.f42 I_rectoref08_leaf [O_rectoref08_leaf] (n, ()) R = rectoref08_leaf.vc (fun y0 => R ⟨O_rectoref08_leaf, (y0, ())⟩) n := by kernel_rfl
theorem fs_rectoref08_leaf : CtrsOk Tryz.prog [] gl := trivial
theorem vc_rectoref08_leaf (H : Nat → Entry) (v : c_rectoref08_leaf.inp.V) (r : (p : Pat) × p.V) (h : (c_rectoref08_leaf.body v).Sel H r) : fnVc (cx_rectoref08_leaf) an_rectoref08_leaf 0 Tryz.f42 c_rectoref08_leaf.inp [O_rectoref08_leaf] v (fun r' => r' = r) := by
  obtain ⟨n, ⟨⟩⟩ := v
  obtain rfl := h
  exact Eq.mpr (eq_rectoref08_leaf n _) (rectoref08_leaf.ok _ n  rfl)
theorem ctr_rectoref08_leaf : CtrOk Tryz.prog 42 c_rectoref08_leaf gl := ⟨⟨_, Tryz.func42, by kernel_rfl, by kernel_rfl⟩, fun H v r h => mk_ok _ (fs_rectoref08_leaf) (an := an_rectoref08_leaf) (outs := [O_rectoref08_leaf]) Tryz.func42 (by decide) (vc_rectoref08_leaf H v r h)⟩
abbrev I_rectoref08_Depth : Pat := { slots := [(0, .ce (.v (.sl .node)))], ents := [] }
abbrev O_rectoref08_Depth : Pat := { slots := [(0, .ce (.v (.int .i64)))], ents := [] }
def r_rectoref08_Depth (nn : Nat) : Ctr := { k0 := 0, inp := I_rectoref08_Depth, body := fun v => .need (Sp.prOk v.1 ∧ Sp.mCt v.1 < nn) (.ret ⟨O_rectoref08_Depth, ((Sp.dpL v.1), ())⟩), ex := 0 }
def c_rectoref08_Depth : Ctr := { k0 := 0, inp := I_rectoref08_Depth, body := fun v => .need (Sp.prOk v.1) (.ret ⟨O_rectoref08_Depth, ((Sp.dpL v.1), ())⟩), ex := 0 }
def an_rectoref08_Depth : Ann := [(3, { slots := [(3, .ce (.v (.int .i64))), (7, .ce (.v (.sl .node))), (8, .ce (.v (.int .i64))), (9, .ce (.v (.int .i64)))], ents := [] })]
def cx_rectoref08_Depth (nn : Nat) : Cx := mkCx [(25, [r_rectoref08_Depth nn]), (42, [c_rectoref08_leaf])]
theorem eq_rectoref08_Depth (nn : Nat) (l : (List Vi.Node)) (R : ((p : Pat) × p.V) → Prop) : fnVc (cx_rectoref08_Depth nn) an_rectoref08_Depth 0 Tryz.f25 I_rectoref08_Depth [O_rectoref08_Depth] (l, ()) R = rectoref08_Depth.vc (fun y0 => R ⟨O_rectoref08_Depth, (y0, ())⟩) nn l := by kernel_rfl
theorem fs_rectoref08_Depth (nn : Nat) (ih_rectoref08_Depth : CtrOk Tryz.prog 25 (r_rectoref08_Depth nn) gl) : CtrsOk Tryz.prog [(25, [r_rectoref08_Depth nn]), (42, [c_rectoref08_leaf])] gl := ⟨(ctr1 ih_rectoref08_Depth), (ctr1 (ctr_rectoref08_leaf)), trivial⟩
theorem grp_dp (nn : Nat) : CtrOk Tryz.prog 25 (r_rectoref08_Depth nn) gl := by
  induction nn with
  | zero => exact ⟨⟨_, Tryz.func25, by kernel_rfl, by kernel_rfl⟩, fun H v r h => absurd h.1.2 (Nat.not_lt_zero _)⟩
  | succ nn ih =>
  have ih_rectoref08_Depth := ih
  refine ⟨⟨_, Tryz.func25, by kernel_rfl, by kernel_rfl⟩, ?_⟩
  · intro H v r h
    obtain ⟨l, ⟨⟩⟩ := v
    obtain ⟨h, rfl⟩ := h
    exact mk_ok _ (fs_rectoref08_Depth nn ih_rectoref08_Depth) (an := an_rectoref08_Depth) (outs := [O_rectoref08_Depth]) Tryz.func25 (Nat.le_of_ble_eq_true rfl) (Eq.mpr (eq_rectoref08_Depth nn l _) (rectoref08_Depth.ok nn _ l h rfl))

theorem ctr_rectoref08_Depth : CtrOk Tryz.prog 25 c_rectoref08_Depth gl := ⟨⟨_, Tryz.func25, by kernel_rfl, by kernel_rfl⟩, fun H v r h => ((grp_dp (Sp.mCt v.1 + 1)).2 H v r ⟨⟨h.1, Nat.lt_succ_self _⟩, h.2⟩).body⟩
abbrev I_rectoref08_Right : Pat := { slots := [(0, .ce (.v (.sl .node)))], ents := [] }
abbrev O_rectoref08_Right : Pat := { slots := [(0, .ce (.v .bool))], ents := [] }
def r_rectoref08_Right (nn : Nat) : Ctr := { k0 := 0, inp := I_rectoref08_Right, body := fun v => .need (Sp.prOk v.1 ∧ Sp.mCt v.1 < nn) (.ret ⟨O_rectoref08_Right, ((Sp.rightP v.1), ())⟩), ex := 0 }
def c_rectoref08_Right : Ctr := { k0 := 0, inp := I_rectoref08_Right, body := fun v => .need (Sp.prOk v.1) (.ret ⟨O_rectoref08_Right, ((Sp.rightP v.1), ())⟩), ex := 0 }
def an_rectoref08_Right : Ann := [(2, { slots := [(0, .ce (.v (.sl .node))), (5, .ce (.v (.sl .node))), (6, .ce (.v (.int .i64))), (7, .ce (.v (.int .i64)))], ents := [] })]
def cx_rectoref08_Right (nn : Nat) : Cx := mkCx [(42, [c_rectoref08_leaf]), (43, [c_rectoref06_Good]), (44, [c_rectoref06_Wrong]), (26, [r_rectoref08_Right nn])]
theorem eq_rectoref08_Right (nn : Nat) (l : (List Vi.Node)) (R : ((p : Pat) × p.V) → Prop) : fnVc (cx_rectoref08_Right nn) an_rectoref08_Right 0 Tryz.f26 I_rectoref08_Right [O_rectoref08_Right] (l, ()) R = rectoref08_Right.vc (fun y0 => R ⟨O_rectoref08_Right, (y0, ())⟩) nn l := by kernel_rfl
theorem fs_rectoref08_Right (nn : Nat) (ih_rectoref08_Right : CtrOk Tryz.prog 26 (r_rectoref08_Right nn) gl) : CtrsOk Tryz.prog [(42, [c_rectoref08_leaf]), (43, [c_rectoref06_Good]), (44, [c_rectoref06_Wrong]), (26, [r_rectoref08_Right nn])] gl := ⟨(ctr1 (ctr_rectoref08_leaf)), (ctr1 (ctr_rectoref06_Good)), (ctr1 (ctr_rectoref06_Wrong)), (ctr1 ih_rectoref08_Right), trivial⟩
theorem grp_ri (nn : Nat) : CtrOk Tryz.prog 26 (r_rectoref08_Right nn) gl := by
  induction nn with
  | zero => exact ⟨⟨_, Tryz.func26, by kernel_rfl, by kernel_rfl⟩, fun H v r h => absurd h.1.2 (Nat.not_lt_zero _)⟩
  | succ nn ih =>
  have ih_rectoref08_Right := ih
  refine ⟨⟨_, Tryz.func26, by kernel_rfl, by kernel_rfl⟩, ?_⟩
  · intro H v r h
    obtain ⟨l, ⟨⟩⟩ := v
    obtain ⟨h, rfl⟩ := h
    exact mk_ok _ (fs_rectoref08_Right nn ih_rectoref08_Right) (an := an_rectoref08_Right) (outs := [O_rectoref08_Right]) Tryz.func26 (Nat.le_of_ble_eq_true rfl) (Eq.mpr (eq_rectoref08_Right nn l _) (rectoref08_Right.ok nn _ l h rfl))

theorem ctr_rectoref08_Right : CtrOk Tryz.prog 26 c_rectoref08_Right gl := ⟨⟨_, Tryz.func26, by kernel_rfl, by kernel_rfl⟩, fun H v r h => ((grp_ri (Sp.mCt v.1 + 1)).2 H v r ⟨⟨h.1, Nat.lt_succ_self _⟩, h.2⟩).body⟩
abbrev I_rectoref08_Check : Pat := { slots := [(0, .ce (.v (.sl .node)))], ents := [] }
abbrev O_rectoref08_Check : Pat := { slots := [(0, .ce (.v (.int .i64)))], ents := [] }
def c_rectoref08_Check : Ctr := { k0 := 0, inp := I_rectoref08_Check, body := fun v => .need (Sp.prOk v.1) (.ret ⟨O_rectoref08_Check, ((Sp.chkP v.1), ())⟩), ex := 0 }
def an_rectoref08_Check : Ann := []
def cx_rectoref08_Check : Cx := mkCx [(24, [c_rectoref08_Count]), (25, [c_rectoref08_Depth]), (26, [c_rectoref08_Right])]
theorem eq_rectoref08_Check (l : (List Vi.Node)) (R : ((p : Pat) × p.V) → Prop) : fnVc (cx_rectoref08_Check) an_rectoref08_Check 0 Tryz.f13 I_rectoref08_Check [O_rectoref08_Check] (l, ()) R = rectoref08_Check.vc (fun y0 => R ⟨O_rectoref08_Check, (y0, ())⟩) l := by kernel_rfl
theorem fs_rectoref08_Check : CtrsOk Tryz.prog [(24, [c_rectoref08_Count]), (25, [c_rectoref08_Depth]), (26, [c_rectoref08_Right])] gl := ⟨ctr1 (ctr_rectoref08_Count), ctr1 (ctr_rectoref08_Depth), ctr1 (ctr_rectoref08_Right), trivial⟩
theorem vc_rectoref08_Check (H : Nat → Entry) (v : c_rectoref08_Check.inp.V) (r : (p : Pat) × p.V) (h : (c_rectoref08_Check.body v).Sel H r) : fnVc (cx_rectoref08_Check) an_rectoref08_Check 0 Tryz.f13 c_rectoref08_Check.inp [O_rectoref08_Check] v (fun r' => r' = r) := by
  obtain ⟨l, ⟨⟩⟩ := v
  obtain ⟨h, rfl⟩ := h
  exact Eq.mpr (eq_rectoref08_Check l _) (rectoref08_Check.ok _ l h rfl)
theorem ctr_rectoref08_Check : CtrOk Tryz.prog 13 c_rectoref08_Check gl := ⟨⟨_, Tryz.func13, by kernel_rfl, by kernel_rfl⟩, fun H v r h => mk_ok _ (fs_rectoref08_Check) (an := an_rectoref08_Check) (outs := [O_rectoref08_Check]) Tryz.func13 (by decide) (vc_rectoref08_Check H v r h)⟩
end Vs
