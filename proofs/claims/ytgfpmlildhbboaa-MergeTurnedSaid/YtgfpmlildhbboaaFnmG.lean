/- Functions held against what they tell. Written by a program of this session. -/
import Derived.Test.YtgfpmlildhbboaaPlG
import Derived.Test.YtgfpmlildhbboaaViThree
import Derived.Test.YtgfpmlildhbboaaFnmE
set_option linter.unnecessarySimpa false
set_option linter.unusedVariables false
set_option linter.unusedSectionVars false
set_option linter.unusedSimpArgs false
set_option autoImplicit false
set_option linter.unusedVariables false
set_option maxRecDepth 100000
attribute [local irreducible] Vi.fnVc
namespace Vs
open Go Vi Go.Proofs
abbrev I_slices_Clone_api_Node_api_Node : Pat := { slots := [(0, .ce (.v (.sl .node)))], ents := [] }
abbrev O_slices_Clone_api_Node_api_Node : Pat := { slots := [(0, .ce (.os 0))], ents := [.row 80 .node] }
def c_slices_Clone_api_Node_api_Node : Ctr := { k0 := 0, inp := I_slices_Clone_api_Node_api_Node, body := fun v => .need (Sp.idN.pre v.1) (.ret ⟨O_slices_Clone_api_Node_api_Node, ((Sp.idN v.1), ())⟩), ex := 0 }
def an_slices_Clone_api_Node_api_Node : Ann := []
def cx_slices_Clone_api_Node_api_Node : Cx := mkCx []
theorem eq_slices_Clone_api_Node_api_Node (s : (List Vi.Node)) (R : ((p : Pat) × p.V) → Prop) : fnVc (cx_slices_Clone_api_Node_api_Node) an_slices_Clone_api_Node_api_Node 0 Try.f91 I_slices_Clone_api_Node_api_Node [O_slices_Clone_api_Node_api_Node] (s, ()) R = slices_Clone_api_Node_api_Node.vc (fun y0 => R ⟨O_slices_Clone_api_Node_api_Node, (y0, ())⟩) s := by kernel_rfl
theorem fs_slices_Clone_api_Node_api_Node : CtrsOk Try.prog [] := trivial
theorem vc_slices_Clone_api_Node_api_Node (H : Nat → Entry) (v : c_slices_Clone_api_Node_api_Node.inp.V) (r : (p : Pat) × p.V) (h : (c_slices_Clone_api_Node_api_Node.body v).Sel H r) : fnVc (cx_slices_Clone_api_Node_api_Node) an_slices_Clone_api_Node_api_Node 0 Try.f91 c_slices_Clone_api_Node_api_Node.inp [O_slices_Clone_api_Node_api_Node] v (fun r' => r' = r) := by
  obtain ⟨s, ⟨⟩⟩ := v
  obtain ⟨h, rfl⟩ := h
  exact Eq.mpr (eq_slices_Clone_api_Node_api_Node s _) (slices_Clone_api_Node_api_Node.ok _ s h rfl)
theorem ctr_slices_Clone_api_Node_api_Node : CtrOk Try.prog 91 c_slices_Clone_api_Node_api_Node := ⟨⟨_, Try.func91, by kernel_rfl, by kernel_rfl⟩, fun H v r h => mk_ok _ (fs_slices_Clone_api_Node_api_Node) (an := an_slices_Clone_api_Node_api_Node) (outs := [O_slices_Clone_api_Node_api_Node]) Try.func91 (by decide) (vc_slices_Clone_api_Node_api_Node H v r h)⟩
abbrev I_slices_Clone_api_Attr_api_Attr : Pat := { slots := [(0, .ce (.v (.sl (.pair .str .str))))], ents := [] }
abbrev O_slices_Clone_api_Attr_api_Attr : Pat := { slots := [(0, .ce (.v (.sl (.pair .str .str))))], ents := [] }
def c_slices_Clone_api_Attr_api_Attr : Ctr := { k0 := 0, inp := I_slices_Clone_api_Attr_api_Attr, body := fun v => .need (Sp.idA.pre v.1) (.ret ⟨O_slices_Clone_api_Attr_api_Attr, ((Sp.idA v.1), ())⟩), ex := 0 }
def an_slices_Clone_api_Attr_api_Attr : Ann := []
def cx_slices_Clone_api_Attr_api_Attr : Cx := mkCx []
theorem eq_slices_Clone_api_Attr_api_Attr (s : (List (Str × Str))) (R : ((p : Pat) × p.V) → Prop) : fnVc (cx_slices_Clone_api_Attr_api_Attr) an_slices_Clone_api_Attr_api_Attr 0 Try.f92 I_slices_Clone_api_Attr_api_Attr [O_slices_Clone_api_Attr_api_Attr] (s, ()) R = slices_Clone_api_Attr_api_Attr.vc (fun y0 => R ⟨O_slices_Clone_api_Attr_api_Attr, (y0, ())⟩) s := by kernel_rfl
theorem fs_slices_Clone_api_Attr_api_Attr : CtrsOk Try.prog [] := trivial
theorem vc_slices_Clone_api_Attr_api_Attr (H : Nat → Entry) (v : c_slices_Clone_api_Attr_api_Attr.inp.V) (r : (p : Pat) × p.V) (h : (c_slices_Clone_api_Attr_api_Attr.body v).Sel H r) : fnVc (cx_slices_Clone_api_Attr_api_Attr) an_slices_Clone_api_Attr_api_Attr 0 Try.f92 c_slices_Clone_api_Attr_api_Attr.inp [O_slices_Clone_api_Attr_api_Attr] v (fun r' => r' = r) := by
  obtain ⟨s, ⟨⟩⟩ := v
  obtain ⟨h, rfl⟩ := h
  exact Eq.mpr (eq_slices_Clone_api_Attr_api_Attr s _) (slices_Clone_api_Attr_api_Attr.ok _ s h rfl)
theorem ctr_slices_Clone_api_Attr_api_Attr : CtrOk Try.prog 92 c_slices_Clone_api_Attr_api_Attr := ⟨⟨_, Try.func92, by kernel_rfl, by kernel_rfl⟩, fun H v r h => mk_ok _ (fs_slices_Clone_api_Attr_api_Attr) (an := an_slices_Clone_api_Attr_api_Attr) (outs := [O_slices_Clone_api_Attr_api_Attr]) Try.func92 (by decide) (vc_slices_Clone_api_Attr_api_Attr H v r h)⟩
abbrev I_tree_Copy : Pat := { slots := [(0, .ce (.v (.sl .node)))], ents := [] }
abbrev O_tree_Copy : Pat := { slots := [(0, .ce (.os 0))], ents := [.row 80 .node] }
def r_tree_Copy (nn : Nat) : Ctr := { k0 := 0, inp := I_tree_Copy, body := fun v => .need (Sp.copyN.pre v.1 ∧ Sp.mCp v.1 < nn) (.ret ⟨O_tree_Copy, ((Sp.copyN v.1), ())⟩), ex := 0 }
def c_tree_Copy : Ctr := { k0 := 0, inp := I_tree_Copy, body := fun v => .need (Sp.copyN.pre v.1) (.ret ⟨O_tree_Copy, ((Sp.copyN v.1), ())⟩), ex := 0 }
def an_tree_Copy : Ann := [(3, { slots := [(3, .ce (.os 0)), (8, .ce (.v (.int .i64))), (9, .ce (.v (.int .i64)))], ents := [.row 80 .node] })]
def cx_tree_Copy (nn : Nat) : Cx := mkCx [(91, [c_slices_Clone_api_Node_api_Node]), (92, [c_slices_Clone_api_Attr_api_Attr]), (81, [r_tree_Copy nn])]
theorem eq_tree_Copy (nn : Nat) (l : (List Vi.Node)) (R : ((p : Pat) × p.V) → Prop) : fnVc (cx_tree_Copy nn) an_tree_Copy 0 Try.f81 I_tree_Copy [O_tree_Copy] (l, ()) R = tree_Copy.vc (fun y0 => R ⟨O_tree_Copy, (y0, ())⟩) nn l := by kernel_rfl
theorem fs_tree_Copy (nn : Nat) (ih_tree_Copy : CtrOk Try.prog 81 (r_tree_Copy nn)) : CtrsOk Try.prog [(91, [c_slices_Clone_api_Node_api_Node]), (92, [c_slices_Clone_api_Attr_api_Attr]), (81, [r_tree_Copy nn])] := ⟨(ctr1 (ctr_slices_Clone_api_Node_api_Node)), (ctr1 (ctr_slices_Clone_api_Attr_api_Attr)), (ctr1 ih_tree_Copy), trivial⟩
theorem grp_copy (nn : Nat) : CtrOk Try.prog 81 (r_tree_Copy nn) := by
  induction nn with
  | zero => exact ⟨⟨_, Try.func81, by kernel_rfl, by kernel_rfl⟩, fun H v r h => absurd h.1.2 (Nat.not_lt_zero _)⟩
  | succ nn ih =>
  have ih_tree_Copy := ih
  refine ⟨⟨_, Try.func81, by kernel_rfl, by kernel_rfl⟩, ?_⟩
  · intro H v r h
    obtain ⟨l, ⟨⟩⟩ := v
    obtain ⟨h, rfl⟩ := h
    exact mk_ok _ (fs_tree_Copy nn ih_tree_Copy) (an := an_tree_Copy) (outs := [O_tree_Copy]) Try.func81 (Nat.le_of_ble_eq_true rfl) (Eq.mpr (eq_tree_Copy nn l _) (tree_Copy.ok nn _ l h rfl))

theorem ctr_tree_Copy : CtrOk Try.prog 81 c_tree_Copy := ⟨⟨_, Try.func81, by kernel_rfl, by kernel_rfl⟩, fun H v r h => ((grp_copy (Sp.mCp v.1 + 1)).2 H v r ⟨⟨h.1, Nat.lt_succ_self _⟩, h.2⟩).body⟩
abbrev I_merge_add : Pat := { slots := [(0, .ce (.os 0)), (1, .ce (.v (.sl .node)))], ents := [.row 80 .node] }
abbrev O_merge_add : Pat := { slots := [(0, .ce (.os 0))], ents := [.row 80 .node] }
def c_merge_add : Ctr := { k0 := 0, inp := I_merge_add, body := fun v => .need (Sp.addN.pre v.2.1 v.1) (.ret ⟨O_merge_add, (Sp.addN v.2.1 v.1, ())⟩), ex := 0 }
def an_merge_add : Ann := [(2, { slots := [(0, .ce (.os 0)), (8, .ce (.v (.sl .node))), (9, .ce (.v (.int .i64))), (10, .ce (.v (.int .i64)))], ents := [.row 80 .node] })]
def cx_merge_add : Cx := mkCx []
theorem eq_merge_add (l : (List Vi.Node)) (out : (List Vi.Node)) (R : ((p : Pat) × p.V) → Prop) : fnVc (cx_merge_add) an_merge_add 0 Try.f82 I_merge_add [O_merge_add] (l, out, ()) R = merge_add.vc (fun y0 => R ⟨O_merge_add, (y0, ())⟩) l out := by kernel_rfl
theorem fs_merge_add : CtrsOk Try.prog [] := trivial
theorem vc_merge_add (H : Nat → Entry) (v : c_merge_add.inp.V) (r : (p : Pat) × p.V) (h : (c_merge_add.body v).Sel H r) : fnVc (cx_merge_add) an_merge_add 0 Try.f82 c_merge_add.inp [O_merge_add] v (fun r' => r' = r) := by
  obtain ⟨l, out, ⟨⟩⟩ := v
  obtain ⟨h, rfl⟩ := h
  exact Eq.mpr (eq_merge_add l out _) (merge_add.ok _ l out h rfl)
theorem ctr_merge_add : CtrOk Try.prog 82 c_merge_add := ⟨⟨_, Try.func82, by kernel_rfl, by kernel_rfl⟩, fun H v r h => mk_ok _ (fs_merge_add) (an := an_merge_add) (outs := [O_merge_add]) Try.func82 (by decide) (vc_merge_add H v r h)⟩
abbrev I_merge_joined : Pat := { slots := [(0, .ce (.v (.sl .node)))], ents := [] }
abbrev O_merge_joined : Pat := { slots := [(0, .ce (.v (.sl .node)))], ents := [] }
def c_merge_joined : Ctr := { k0 := 0, inp := I_merge_joined, body := fun v => .need (Sp.joinedN.pre v.1) (.ret ⟨O_merge_joined, ((Sp.joinedN v.1), ())⟩), ex := 0 }
def an_merge_joined : Ann := []
def cx_merge_joined : Cx := mkCx [(81, [c_tree_Copy]), (82, [c_merge_add])]
theorem eq_merge_joined (l : (List Vi.Node)) (R : ((p : Pat) × p.V) → Prop) : fnVc (cx_merge_joined) an_merge_joined 0 Try.f99 I_merge_joined [O_merge_joined] (l, ()) R = merge_joined.vc (fun y0 => R ⟨O_merge_joined, (y0, ())⟩) l := by kernel_rfl
theorem fs_merge_joined : CtrsOk Try.prog [(81, [c_tree_Copy]), (82, [c_merge_add])] := ⟨ctr1 (ctr_tree_Copy), ctr1 (ctr_merge_add), trivial⟩
theorem vc_merge_joined (H : Nat → Entry) (v : c_merge_joined.inp.V) (r : (p : Pat) × p.V) (h : (c_merge_joined.body v).Sel H r) : fnVc (cx_merge_joined) an_merge_joined 0 Try.f99 c_merge_joined.inp [O_merge_joined] v (fun r' => r' = r) := by
  obtain ⟨l, ⟨⟩⟩ := v
  obtain ⟨h, rfl⟩ := h
  exact Eq.mpr (eq_merge_joined l _) (merge_joined.ok _ l h rfl)
theorem ctr_merge_joined : CtrOk Try.prog 99 c_merge_joined := ⟨⟨_, Try.func99, by kernel_rfl, by kernel_rfl⟩, fun H v r h => mk_ok _ (fs_merge_joined) (an := an_merge_joined) (outs := [O_merge_joined]) Try.func99 (by decide) (vc_merge_joined H v r h)⟩
abbrev I_merge_box : Pat := { slots := [(0, .ce (.v .str)), (1, .ce (.v (.sl .node)))], ents := [] }
abbrev O_merge_box : Pat := { slots := [(0, .ag .node)], ents := [] }
def c_merge_box : Ctr := { k0 := 0, inp := I_merge_box, body := fun v => .ret ⟨O_merge_box, ((Sp.boxN v.1 v.2.1), ())⟩, ex := 0 }
def an_merge_box : Ann := []
def cx_merge_box : Cx := mkCx []
theorem eq_merge_box (name : Str) (kids : (List Vi.Node)) (R : ((p : Pat) × p.V) → Prop) : fnVc (cx_merge_box) an_merge_box 0 Try.f90 I_merge_box [O_merge_box] (name, kids, ()) R = merge_box.vc (fun y0 => R ⟨O_merge_box, (y0, ())⟩) name kids := by kernel_rfl
theorem fs_merge_box : CtrsOk Try.prog [] := trivial
theorem vc_merge_box (H : Nat → Entry) (v : c_merge_box.inp.V) (r : (p : Pat) × p.V) (h : (c_merge_box.body v).Sel H r) : fnVc (cx_merge_box) an_merge_box 0 Try.f90 c_merge_box.inp [O_merge_box] v (fun r' => r' = r) := by
  obtain ⟨name, kids, ⟨⟩⟩ := v
  obtain rfl := h
  exact Eq.mpr (eq_merge_box name kids _) (merge_box.ok _ name kids  rfl)
theorem ctr_merge_box : CtrOk Try.prog 90 c_merge_box := ⟨⟨_, Try.func90, by kernel_rfl, by kernel_rfl⟩, fun H v r h => mk_ok _ (fs_merge_box) (an := an_merge_box) (outs := [O_merge_box]) Try.func90 (by decide) (vc_merge_box H v r h)⟩
abbrev I_merge_Mark : Pat := { slots := [(0, .ce (.v (.sl .node))), (1, .ce (.v (.sl .node)))], ents := [] }
abbrev O_merge_Mark : Pat := { slots := [(0, .ag .node)], ents := [] }
def c_merge_Mark : Ctr := { k0 := 0, inp := I_merge_Mark, body := fun v => .need (Sp.markN.pre v.1 v.2.1) (.ret ⟨O_merge_Mark, ((Sp.markN v.1 v.2.1), ())⟩), ex := 0 }
def an_merge_Mark : Ann := []
def cx_merge_Mark : Cx := mkCx [(99, [c_merge_joined]), (90, [c_merge_box])]
theorem eq_merge_Mark (a : (List Vi.Node)) (b : (List Vi.Node)) (R : ((p : Pat) × p.V) → Prop) : fnVc (cx_merge_Mark) an_merge_Mark 0 Try.f97 I_merge_Mark [O_merge_Mark] (a, b, ()) R = merge_Mark.vc (fun y0 => R ⟨O_merge_Mark, (y0, ())⟩) a b := by kernel_rfl
theorem fs_merge_Mark : CtrsOk Try.prog [(99, [c_merge_joined]), (90, [c_merge_box])] := ⟨ctr1 (ctr_merge_joined), ctr1 (ctr_merge_box), trivial⟩
theorem vc_merge_Mark (H : Nat → Entry) (v : c_merge_Mark.inp.V) (r : (p : Pat) × p.V) (h : (c_merge_Mark.body v).Sel H r) : fnVc (cx_merge_Mark) an_merge_Mark 0 Try.f97 c_merge_Mark.inp [O_merge_Mark] v (fun r' => r' = r) := by
  obtain ⟨a, b, ⟨⟩⟩ := v
  obtain ⟨h, rfl⟩ := h
  exact Eq.mpr (eq_merge_Mark a b _) (merge_Mark.ok _ a b h rfl)
theorem ctr_merge_Mark : CtrOk Try.prog 97 c_merge_Mark := ⟨⟨_, Try.func97, by kernel_rfl, by kernel_rfl⟩, fun H v r h => mk_ok _ (fs_merge_Mark) (an := an_merge_Mark) (outs := [O_merge_Mark]) Try.func97 (by decide) (vc_merge_Mark H v r h)⟩
abbrev I_merge_isBox : Pat := { slots := [(0, .ag .node), (1, .ce (.v .str))], ents := [] }
abbrev O_merge_isBox : Pat := { slots := [(0, .ce (.v .bool))], ents := [] }
def c_merge_isBox : Ctr := { k0 := 0, inp := I_merge_isBox, body := fun v => .need (Sp.isBoxN.pre v.1 v.2.1) (.ret ⟨O_merge_isBox, ((Sp.isBoxN v.1 v.2.1), ())⟩), ex := 0 }
def an_merge_isBox : Ann := []
def cx_merge_isBox : Cx := mkCx [(90, [c_merge_box]), (57, [c_tree_Same])]
theorem eq_merge_isBox (n : Vi.Node) (name : Str) (R : ((p : Pat) × p.V) → Prop) : fnVc (cx_merge_isBox) an_merge_isBox 0 Try.f80 I_merge_isBox [O_merge_isBox] (n, name, ()) R = merge_isBox.vc (fun y0 => R ⟨O_merge_isBox, (y0, ())⟩) n name := by kernel_rfl
theorem fs_merge_isBox : CtrsOk Try.prog [(90, [c_merge_box]), (57, [c_tree_Same])] := ⟨ctr1 (ctr_merge_box), ctr1 (ctr_tree_Same), trivial⟩
theorem vc_merge_isBox (H : Nat → Entry) (v : c_merge_isBox.inp.V) (r : (p : Pat) × p.V) (h : (c_merge_isBox.body v).Sel H r) : fnVc (cx_merge_isBox) an_merge_isBox 0 Try.f80 c_merge_isBox.inp [O_merge_isBox] v (fun r' => r' = r) := by
  obtain ⟨n, name, ⟨⟩⟩ := v
  obtain ⟨h, rfl⟩ := h
  exact Eq.mpr (eq_merge_isBox n name _) (merge_isBox.ok _ n name h rfl)
theorem ctr_merge_isBox : CtrOk Try.prog 80 c_merge_isBox := ⟨⟨_, Try.func80, by kernel_rfl, by kernel_rfl⟩, fun H v r h => mk_ok _ (fs_merge_isBox) (an := an_merge_isBox) (outs := [O_merge_isBox]) Try.func80 (by decide) (vc_merge_isBox H v r h)⟩
abbrev I_merge_IsMark : Pat := { slots := [(0, .ag .node)], ents := [] }
abbrev O_merge_IsMark : Pat := { slots := [(0, .ce (.v .bool))], ents := [] }
def c_merge_IsMark : Ctr := { k0 := 0, inp := I_merge_IsMark, body := fun v => .need (Sp.isMarkN.pre v.1) (.ret ⟨O_merge_IsMark, ((Sp.isMarkN v.1), ())⟩), ex := 0 }
def an_merge_IsMark : Ann := []
def cx_merge_IsMark : Cx := mkCx [(80, [c_merge_isBox])]
theorem eq_merge_IsMark (n : Vi.Node) (R : ((p : Pat) × p.V) → Prop) : fnVc (cx_merge_IsMark) an_merge_IsMark 0 Try.f59 I_merge_IsMark [O_merge_IsMark] (n, ()) R = merge_IsMark.vc (fun y0 => R ⟨O_merge_IsMark, (y0, ())⟩) n := by kernel_rfl
theorem fs_merge_IsMark : CtrsOk Try.prog [(80, [c_merge_isBox])] := ⟨ctr1 (ctr_merge_isBox), trivial⟩
theorem vc_merge_IsMark (H : Nat → Entry) (v : c_merge_IsMark.inp.V) (r : (p : Pat) × p.V) (h : (c_merge_IsMark.body v).Sel H r) : fnVc (cx_merge_IsMark) an_merge_IsMark 0 Try.f59 c_merge_IsMark.inp [O_merge_IsMark] v (fun r' => r' = r) := by
  obtain ⟨n, ⟨⟩⟩ := v
  obtain ⟨h, rfl⟩ := h
  exact Eq.mpr (eq_merge_IsMark n _) (merge_IsMark.ok _ n h rfl)
theorem ctr_merge_IsMark : CtrOk Try.prog 59 c_merge_IsMark := ⟨⟨_, Try.func59, by kernel_rfl, by kernel_rfl⟩, fun H v r h => mk_ok _ (fs_merge_IsMark) (an := an_merge_IsMark) (outs := [O_merge_IsMark]) Try.func59 (by decide) (vc_merge_IsMark H v r h)⟩
abbrev I_merge_Marks : Pat := { slots := [(0, .ce (.v (.sl .node)))], ents := [] }
abbrev O_merge_Marks : Pat := { slots := [(0, .ce (.v (.int .i64)))], ents := [] }
def r_merge_Marks (nn : Nat) : Ctr := { k0 := 0, inp := I_merge_Marks, body := fun v => .need (Sp.mkL.pre v.1 ∧ Sp.mCp v.1 < nn) (.ret ⟨O_merge_Marks, ((Sp.mkL v.1), ())⟩), ex := 0 }
def c_merge_Marks : Ctr := { k0 := 0, inp := I_merge_Marks, body := fun v => .need (Sp.mkL.pre v.1) (.ret ⟨O_merge_Marks, ((Sp.mkL v.1), ())⟩), ex := 0 }
def an_merge_Marks : Ann := [(3, { slots := [(3, .ce (.v (.int .i64))), (6, .ce (.v (.sl .node))), (7, .ce (.v (.int .i64))), (8, .ce (.v (.int .i64)))], ents := [] })]
def cx_merge_Marks (nn : Nat) : Cx := mkCx [(59, [c_merge_IsMark]), (60, [r_merge_Marks nn])]
theorem eq_merge_Marks (nn : Nat) (l : (List Vi.Node)) (R : ((p : Pat) × p.V) → Prop) : fnVc (cx_merge_Marks nn) an_merge_Marks 0 Try.f60 I_merge_Marks [O_merge_Marks] (l, ()) R = merge_Marks.vc (fun y0 => R ⟨O_merge_Marks, (y0, ())⟩) nn l := by kernel_rfl
theorem fs_merge_Marks (nn : Nat) (ih_merge_Marks : CtrOk Try.prog 60 (r_merge_Marks nn)) : CtrsOk Try.prog [(59, [c_merge_IsMark]), (60, [r_merge_Marks nn])] := ⟨(ctr1 (ctr_merge_IsMark)), (ctr1 ih_merge_Marks), trivial⟩
theorem grp_marks (nn : Nat) : CtrOk Try.prog 60 (r_merge_Marks nn) := by
  induction nn with
  | zero => exact ⟨⟨_, Try.func60, by kernel_rfl, by kernel_rfl⟩, fun H v r h => absurd h.1.2 (Nat.not_lt_zero _)⟩
  | succ nn ih =>
  have ih_merge_Marks := ih
  refine ⟨⟨_, Try.func60, by kernel_rfl, by kernel_rfl⟩, ?_⟩
  · intro H v r h
    obtain ⟨l, ⟨⟩⟩ := v
    obtain ⟨h, rfl⟩ := h
    exact mk_ok _ (fs_merge_Marks nn ih_merge_Marks) (an := an_merge_Marks) (outs := [O_merge_Marks]) Try.func60 (Nat.le_of_ble_eq_true rfl) (Eq.mpr (eq_merge_Marks nn l _) (merge_Marks.ok nn _ l h rfl))

theorem ctr_merge_Marks : CtrOk Try.prog 60 c_merge_Marks := ⟨⟨_, Try.func60, by kernel_rfl, by kernel_rfl⟩, fun H v r h => ((grp_marks (Sp.mCp v.1 + 1)).2 H v r ⟨⟨h.1, Nat.lt_succ_self _⟩, h.2⟩).body⟩
abbrev I_merge_Pick : Pat := { slots := [(0, .ce (.v (.sl .node))), (1, .ce (.v .bool))], ents := [] }
abbrev O_merge_Pick : Pat := { slots := [(0, .ce (.v (.sl .node)))], ents := [] }
def r_merge_Pick (nn : Nat) : Ctr := { k0 := 0, inp := I_merge_Pick, body := fun v => .need (Sp.pickL.pre v.1 v.2.1 ∧ Sp.mPk v.1 v.2.1 < nn) (.ret ⟨O_merge_Pick, ((Sp.pickL v.1 v.2.1), ())⟩), ex := 0 }
def c_merge_Pick : Ctr := { k0 := 0, inp := I_merge_Pick, body := fun v => .need (Sp.pickL.pre v.1 v.2.1) (.ret ⟨O_merge_Pick, ((Sp.pickL v.1 v.2.1), ())⟩), ex := 0 }
def an_merge_Pick : Ann := [(3, { slots := [(1, .ce (.v .bool)), (5, .ce (.os 0)), (9, .ce (.os 1)), (10, .ce (.v (.int .i64))), (11, .ce (.v (.int .i64)))], ents := [.row 80 .node, .row 80 .node] })]
def cx_merge_Pick (nn : Nat) : Cx := mkCx [(81, [c_tree_Copy]), (59, [c_merge_IsMark]), (82, [c_merge_add]), (61, [r_merge_Pick nn])]
theorem eq_merge_Pick (nn : Nat) (l : (List Vi.Node)) (theirs : Bool) (R : ((p : Pat) × p.V) → Prop) : fnVc (cx_merge_Pick nn) an_merge_Pick 0 Try.f61 I_merge_Pick [O_merge_Pick] (l, theirs, ()) R = merge_Pick.vc (fun y0 => R ⟨O_merge_Pick, (y0, ())⟩) nn l theirs := by kernel_rfl
theorem fs_merge_Pick (nn : Nat) (ih_merge_Pick : CtrOk Try.prog 61 (r_merge_Pick nn)) : CtrsOk Try.prog [(81, [c_tree_Copy]), (59, [c_merge_IsMark]), (82, [c_merge_add]), (61, [r_merge_Pick nn])] := ⟨(ctr1 (ctr_tree_Copy)), (ctr1 (ctr_merge_IsMark)), (ctr1 (ctr_merge_add)), (ctr1 ih_merge_Pick), trivial⟩
theorem grp_pick (nn : Nat) : CtrOk Try.prog 61 (r_merge_Pick nn) := by
  induction nn with
  | zero => exact ⟨⟨_, Try.func61, by kernel_rfl, by kernel_rfl⟩, fun H v r h => absurd h.1.2 (Nat.not_lt_zero _)⟩
  | succ nn ih =>
  have ih_merge_Pick := ih
  refine ⟨⟨_, Try.func61, by kernel_rfl, by kernel_rfl⟩, ?_⟩
  · intro H v r h
    obtain ⟨l, theirs, ⟨⟩⟩ := v
    obtain ⟨h, rfl⟩ := h
    exact mk_ok _ (fs_merge_Pick nn ih_merge_Pick) (an := an_merge_Pick) (outs := [O_merge_Pick]) Try.func61 (Nat.le_of_ble_eq_true rfl) (Eq.mpr (eq_merge_Pick nn l theirs _) (merge_Pick.ok nn _ l theirs h rfl))

theorem ctr_merge_Pick : CtrOk Try.prog 61 c_merge_Pick := ⟨⟨_, Try.func61, by kernel_rfl, by kernel_rfl⟩, fun H v r h => ((grp_pick (Sp.mPk v.1 v.2.1 + 1)).2 H v r ⟨⟨h.1, Nat.lt_succ_self _⟩, h.2⟩).body⟩
abbrev I_slices_Equal_api_Attr_api_Attr : Pat := { slots := [(0, .ce (.v (.sl (.pair .str .str)))), (1, .ce (.v (.sl (.pair .str .str))))], ents := [] }
abbrev O_slices_Equal_api_Attr_api_Attr : Pat := { slots := [(0, .ce (.v .bool))], ents := [] }
def c_slices_Equal_api_Attr_api_Attr : Ctr := { k0 := 0, inp := I_slices_Equal_api_Attr_api_Attr, body := fun v => .need (Sp.eqAt.pre v.1 v.2.1) (.ret ⟨O_slices_Equal_api_Attr_api_Attr, ((Sp.eqAt v.1 v.2.1), ())⟩), ex := 0 }
def an_slices_Equal_api_Attr_api_Attr : Ann := [(4, { slots := [(0, .ce (.v (.sl (.pair .str .str)))), (1, .ce (.v (.sl (.pair .str .str)))), (12, .ce (.v (.int .i64))), (13, .ce (.v (.int .i64)))], ents := [] })]
def cx_slices_Equal_api_Attr_api_Attr : Cx := mkCx []
theorem eq_slices_Equal_api_Attr_api_Attr (s1 : (List (Str × Str))) (s2 : (List (Str × Str))) (R : ((p : Pat) × p.V) → Prop) : fnVc (cx_slices_Equal_api_Attr_api_Attr) an_slices_Equal_api_Attr_api_Attr 0 Try.f94 I_slices_Equal_api_Attr_api_Attr [O_slices_Equal_api_Attr_api_Attr] (s1, s2, ()) R = slices_Equal_api_Attr_api_Attr.vc (fun y0 => R ⟨O_slices_Equal_api_Attr_api_Attr, (y0, ())⟩) s1 s2 := by kernel_rfl
theorem fs_slices_Equal_api_Attr_api_Attr : CtrsOk Try.prog [] := trivial
theorem vc_slices_Equal_api_Attr_api_Attr (H : Nat → Entry) (v : c_slices_Equal_api_Attr_api_Attr.inp.V) (r : (p : Pat) × p.V) (h : (c_slices_Equal_api_Attr_api_Attr.body v).Sel H r) : fnVc (cx_slices_Equal_api_Attr_api_Attr) an_slices_Equal_api_Attr_api_Attr 0 Try.f94 c_slices_Equal_api_Attr_api_Attr.inp [O_slices_Equal_api_Attr_api_Attr] v (fun r' => r' = r) := by
  obtain ⟨s1, s2, ⟨⟩⟩ := v
  obtain ⟨h, rfl⟩ := h
  exact Eq.mpr (eq_slices_Equal_api_Attr_api_Attr s1 s2 _) (slices_Equal_api_Attr_api_Attr.ok _ s1 s2 h rfl)
theorem ctr_slices_Equal_api_Attr_api_Attr : CtrOk Try.prog 94 c_slices_Equal_api_Attr_api_Attr := ⟨⟨_, Try.func94, by kernel_rfl, by kernel_rfl⟩, fun H v r h => mk_ok _ (fs_slices_Equal_api_Attr_api_Attr) (an := an_slices_Equal_api_Attr_api_Attr) (outs := [O_slices_Equal_api_Attr_api_Attr]) Try.func94 (by decide) (vc_slices_Equal_api_Attr_api_Attr H v r h)⟩
abbrev I_merge_merger_kept_1 : Pat := { slots := [(0, .ce (.v .str)), (1, .ce (.v .str))], ents := [] }
abbrev O_merge_merger_kept_1 : Pat := { slots := [(0, .ce (.v .bool))], ents := [] }
def c_merge_merger_kept_1 : Ctr := { k0 := 0, inp := I_merge_merger_kept_1, body := fun v => .ret ⟨O_merge_merger_kept_1, ((Sp.eqTx v.1 v.2.1), ())⟩, ex := 0 }
def an_merge_merger_kept_1 : Ann := []
def cx_merge_merger_kept_1 : Cx := mkCx []
theorem eq_merge_merger_kept_1 (x : Str) (y : Str) (R : ((p : Pat) × p.V) → Prop) : fnVc (cx_merge_merger_kept_1) an_merge_merger_kept_1 0 Try.f96 I_merge_merger_kept_1 [O_merge_merger_kept_1] (x, y, ()) R = merge_merger_kept_1.vc (fun y0 => R ⟨O_merge_merger_kept_1, (y0, ())⟩) x y := by kernel_rfl
theorem fs_merge_merger_kept_1 : CtrsOk Try.prog [] := trivial
theorem vc_merge_merger_kept_1 (H : Nat → Entry) (v : c_merge_merger_kept_1.inp.V) (r : (p : Pat) × p.V) (h : (c_merge_merger_kept_1.body v).Sel H r) : fnVc (cx_merge_merger_kept_1) an_merge_merger_kept_1 0 Try.f96 c_merge_merger_kept_1.inp [O_merge_merger_kept_1] v (fun r' => r' = r) := by
  obtain ⟨x, y, ⟨⟩⟩ := v
  obtain rfl := h
  exact Eq.mpr (eq_merge_merger_kept_1 x y _) (merge_merger_kept_1.ok _ x y  rfl)
theorem ctr_merge_merger_kept_1 : CtrOk Try.prog 96 c_merge_merger_kept_1 := ⟨⟨_, Try.func96, by kernel_rfl, by kernel_rfl⟩, fun H v r h => mk_ok _ (fs_merge_merger_kept_1) (an := an_merge_merger_kept_1) (outs := [O_merge_merger_kept_1]) Try.func96 (by decide) (vc_merge_merger_kept_1 H v r h)⟩
abbrev I_merge_one_api_Attr : Pat := { slots := [(0, .ce (.v (.sl (.pair .str .str)))), (1, .ce (.v (.sl (.pair .str .str)))), (2, .ce (.v (.sl (.pair .str .str)))), (3, .ce (.fn 94 [] []))], ents := [] }
abbrev O_merge_one_api_Attr : Pat := { slots := [(0, .ce (.v (.sl (.pair .str .str)))), (1, .ce (.v .bool))], ents := [] }
def c_merge_one_api_Attr : Ctr := { k0 := 0, inp := I_merge_one_api_Attr, body := fun v => .need (Sp.oneA.pre v.1 v.2.1 v.2.2.1) (.ret ⟨O_merge_one_api_Attr, ((Sp.oneA v.1 v.2.1 v.2.2.1).1, (Sp.oneA v.1 v.2.1 v.2.2.1).2, ())⟩), ex := 0 }
def an_merge_one_api_Attr : Ann := []
def cx_merge_one_api_Attr : Cx := mkCx [(94, [c_slices_Equal_api_Attr_api_Attr])]
theorem eq_merge_one_api_Attr (o : (List (Str × Str))) (a : (List (Str × Str))) (b : (List (Str × Str))) (R : ((p : Pat) × p.V) → Prop) : fnVc (cx_merge_one_api_Attr) an_merge_one_api_Attr 0 Try.f93 I_merge_one_api_Attr [O_merge_one_api_Attr] (o, a, b, ()) R = merge_one_api_Attr.vc (fun y0 y1 => R ⟨O_merge_one_api_Attr, (y0, y1, ())⟩) o a b := by kernel_rfl
theorem fs_merge_one_api_Attr : CtrsOk Try.prog [(94, [c_slices_Equal_api_Attr_api_Attr])] := ⟨ctr1 (ctr_slices_Equal_api_Attr_api_Attr), trivial⟩
theorem vc_merge_one_api_Attr (H : Nat → Entry) (v : c_merge_one_api_Attr.inp.V) (r : (p : Pat) × p.V) (h : (c_merge_one_api_Attr.body v).Sel H r) : fnVc (cx_merge_one_api_Attr) an_merge_one_api_Attr 0 Try.f93 c_merge_one_api_Attr.inp [O_merge_one_api_Attr] v (fun r' => r' = r) := by
  obtain ⟨o, a, b, ⟨⟩⟩ := v
  obtain ⟨h, rfl⟩ := h
  exact Eq.mpr (eq_merge_one_api_Attr o a b _) (merge_one_api_Attr.ok _ o a b h rfl)
theorem ctr_merge_one_api_Attr : CtrOk Try.prog 93 c_merge_one_api_Attr := ⟨⟨_, Try.func93, by kernel_rfl, by kernel_rfl⟩, fun H v r h => mk_ok _ (fs_merge_one_api_Attr) (an := an_merge_one_api_Attr) (outs := [O_merge_one_api_Attr]) Try.func93 (by decide) (vc_merge_one_api_Attr H v r h)⟩
abbrev I_merge_one_string : Pat := { slots := [(0, .ce (.v .str)), (1, .ce (.v .str)), (2, .ce (.v .str)), (3, .ce (.fn 96 [] []))], ents := [] }
abbrev O_merge_one_string : Pat := { slots := [(0, .ce (.v .str)), (1, .ce (.v .bool))], ents := [] }
def c_merge_one_string : Ctr := { k0 := 0, inp := I_merge_one_string, body := fun v => .ret ⟨O_merge_one_string, ((Sp.oneS v.1 v.2.1 v.2.2.1).1, (Sp.oneS v.1 v.2.1 v.2.2.1).2, ())⟩, ex := 0 }
def an_merge_one_string : Ann := []
def cx_merge_one_string : Cx := mkCx [(96, [c_merge_merger_kept_1])]
theorem eq_merge_one_string (o : Str) (a : Str) (b : Str) (R : ((p : Pat) × p.V) → Prop) : fnVc (cx_merge_one_string) an_merge_one_string 0 Try.f95 I_merge_one_string [O_merge_one_string] (o, a, b, ()) R = merge_one_string.vc (fun y0 y1 => R ⟨O_merge_one_string, (y0, y1, ())⟩) o a b := by kernel_rfl
theorem fs_merge_one_string : CtrsOk Try.prog [(96, [c_merge_merger_kept_1])] := ⟨ctr1 (ctr_merge_merger_kept_1), trivial⟩
theorem vc_merge_one_string (H : Nat → Entry) (v : c_merge_one_string.inp.V) (r : (p : Pat) × p.V) (h : (c_merge_one_string.body v).Sel H r) : fnVc (cx_merge_one_string) an_merge_one_string 0 Try.f95 c_merge_one_string.inp [O_merge_one_string] v (fun r' => r' = r) := by
  obtain ⟨o, a, b, ⟨⟩⟩ := v
  obtain rfl := h
  exact Eq.mpr (eq_merge_one_string o a b _) (merge_one_string.ok _ o a b  rfl)
theorem ctr_merge_one_string : CtrOk Try.prog 95 c_merge_one_string := ⟨⟨_, Try.func95, by kernel_rfl, by kernel_rfl⟩, fun H v r h => mk_ok _ (fs_merge_one_string) (an := an_merge_one_string) (outs := [O_merge_one_string]) Try.func95 (by decide) (vc_merge_one_string H v r h)⟩
abbrev I_merge_merger_mark : Pat := { slots := [(0, .ce (.ptr 0 0)), (1, .ce (.v (.sl .node))), (2, .ce (.v (.sl .node)))], ents := [.box 105 [.v (.int .i64)]] }
abbrev O_merge_merger_mark : Pat := { slots := [(0, .ce (.v (.sl .node)))], ents := [.box 105 [.v (.int .i64)]] }
def c_merge_merger_mark : Ctr := { k0 := 1, inp := I_merge_merger_mark, body := fun v => .need (Sp.mark1.pre v.1 v.2.1 v.2.2.1) (.ret ⟨O_merge_merger_mark, ([Sp.markN v.1 v.2.1], Sp.pls v.2.2.1 1, ())⟩), ex := 0 }
def an_merge_merger_mark : Ann := []
def cx_merge_merger_mark : Cx := mkCx [(97, [c_merge_Mark])]
theorem eq_merge_merger_mark (a : (List Vi.Node)) (b : (List Vi.Node)) (m : Int) (R : ((p : Pat) × p.V) → Prop) : fnVc (cx_merge_merger_mark) an_merge_merger_mark 1 Try.f84 I_merge_merger_mark [O_merge_merger_mark] (a, b, m, ()) R = merge_merger_mark.vc (fun y0 y1 => R ⟨O_merge_merger_mark, (y0, y1, ())⟩) a b m := by kernel_rfl
theorem fs_merge_merger_mark : CtrsOk Try.prog [(97, [c_merge_Mark])] := ⟨ctr1 (ctr_merge_Mark), trivial⟩
theorem vc_merge_merger_mark (H : Nat → Entry) (v : c_merge_merger_mark.inp.V) (r : (p : Pat) × p.V) (h : (c_merge_merger_mark.body v).Sel H r) : fnVc (cx_merge_merger_mark) an_merge_merger_mark 1 Try.f84 c_merge_merger_mark.inp [O_merge_merger_mark] v (fun r' => r' = r) := by
  obtain ⟨a, b, m, ⟨⟩⟩ := v
  obtain ⟨h, rfl⟩ := h
  exact Eq.mpr (eq_merge_merger_mark a b m _) (merge_merger_mark.ok _ a b m h rfl)
theorem ctr_merge_merger_mark : CtrOk Try.prog 84 c_merge_merger_mark := ⟨⟨_, Try.func84, by kernel_rfl, by kernel_rfl⟩, fun H v r h => mk_ok _ (fs_merge_merger_mark) (an := an_merge_merger_mark) (outs := [O_merge_merger_mark]) Try.func84 (by decide) (vc_merge_merger_mark H v r h)⟩
abbrev I_merge_merger_kept : Pat := { slots := [(0, .ce (.ptr 0 0)), (1, .ag .node), (2, .ag .node), (3, .ag .node)], ents := [.box 105 [.v (.int .i64)]] }
abbrev O_merge_merger_kept : Pat := { slots := [(0, .ce (.v (.sl .node)))], ents := [.box 105 [.v (.int .i64)]] }
def r_merge_merger_kept (nn : Nat) : Ctr := { k0 := 1, inp := I_merge_merger_kept, body := fun v => .need (Sp.kept.pre v.1 v.2.1 v.2.2.1 v.2.2.2.1 ∧ Sp.mKept v.1 v.2.1 v.2.2.1 v.2.2.2.1 < nn) (.ret ⟨O_merge_merger_kept, ((Sp.kept v.1 v.2.1 v.2.2.1).1, Sp.pls v.2.2.2.1 (Sp.kept v.1 v.2.1 v.2.2.1).2, ())⟩), ex := 0 }
def an_merge_merger_kept : Ann := []
abbrev I_merge_merger_lists : Pat := { slots := [(0, .ce (.ptr 0 0)), (1, .ce (.v (.sl .node))), (2, .ce (.v (.sl .node))), (3, .ce (.v (.sl .node)))], ents := [.box 105 [.v (.int .i64)]] }
abbrev O_merge_merger_lists : Pat := { slots := [(0, .ce (.v (.sl .node)))], ents := [.box 105 [.v (.int .i64)]] }
def r_merge_merger_lists (nn : Nat) : Ctr := { k0 := 1, inp := I_merge_merger_lists, body := fun v => .need (Sp.mrg.pre v.1 v.2.1 v.2.2.1 v.2.2.2.1 ∧ Sp.mMrg v.1 v.2.1 v.2.2.1 v.2.2.2.1 < nn) (.ret ⟨O_merge_merger_lists, ((Sp.mrg v.1 v.2.1 v.2.2.1).1, Sp.pls v.2.2.2.1 (Sp.mrg v.1 v.2.1 v.2.2.1).2, ())⟩), ex := 0 }
def c_merge_merger_lists : Ctr := { k0 := 1, inp := I_merge_merger_lists, body := fun v => .need (Sp.mrg.pre v.1 v.2.1 v.2.2.1 v.2.2.2.1) (.ret ⟨O_merge_merger_lists, ((Sp.mrg v.1 v.2.1 v.2.2.1).1, Sp.pls v.2.2.2.1 (Sp.mrg v.1 v.2.1 v.2.2.1).2, ())⟩), ex := 0 }
def an_merge_merger_lists : Ann := [(3, { slots := [(0, .ce (.ptr 0 0)), (1, .ce (.v (.sl .node))), (2, .ce (.v (.sl .node))), (3, .ce (.v (.sl .node))), (9, .ce (.os 1)), (17, .ce (.v (.sl (.pair (.int .i64) (.pair (.pair (.int .i64) (.int .i64)) (.pair (.pair (.int .i64) (.int .i64)) (.pair (.int .i64) (.int .i64)))))))), (18, .ce (.v (.int .i64))), (19, .ce (.v (.int .i64)))], ents := [.box 105 [.v (.int .i64)], .row 80 .node] })]
def cx_merge_merger_kept (nn : Nat) : Cx := mkCx [(93, [c_merge_one_api_Attr]), (94, [c_slices_Equal_api_Attr_api_Attr]), (95, [c_merge_one_string]), (96, [c_merge_merger_kept_1]), (84, [c_merge_merger_mark]), (92, [c_slices_Clone_api_Attr_api_Attr]), (62, [r_merge_merger_lists nn])]
def cx_merge_merger_lists (nn : Nat) : Cx := mkCx [(31, [c_blend_Nodes]), (83, [r_merge_merger_kept nn]), (82, [c_merge_add]), (81, [c_tree_Copy]), (84, [c_merge_merger_mark])]
theorem eq_merge_merger_kept (nn : Nat) (o : Vi.Node) (a : Vi.Node) (b : Vi.Node) (m : Int) (R : ((p : Pat) × p.V) → Prop) : fnVc (cx_merge_merger_kept nn) an_merge_merger_kept 1 Try.f83 I_merge_merger_kept [O_merge_merger_kept] (o, a, b, m, ()) R = merge_merger_kept.vc (fun y0 y1 => R ⟨O_merge_merger_kept, (y0, y1, ())⟩) nn o a b m := by kernel_rfl
theorem fs_merge_merger_kept (nn : Nat) (ih_merge_merger_lists : CtrOk Try.prog 62 (r_merge_merger_lists nn)) : CtrsOk Try.prog [(93, [c_merge_one_api_Attr]), (94, [c_slices_Equal_api_Attr_api_Attr]), (95, [c_merge_one_string]), (96, [c_merge_merger_kept_1]), (84, [c_merge_merger_mark]), (92, [c_slices_Clone_api_Attr_api_Attr]), (62, [r_merge_merger_lists nn])] := ⟨(ctr1 (ctr_merge_one_api_Attr)), (ctr1 (ctr_slices_Equal_api_Attr_api_Attr)), (ctr1 (ctr_merge_one_string)), (ctr1 (ctr_merge_merger_kept_1)), (ctr1 (ctr_merge_merger_mark)), (ctr1 (ctr_slices_Clone_api_Attr_api_Attr)), (ctr1 ih_merge_merger_lists), trivial⟩
theorem eq_merge_merger_lists (nn : Nat) (o : (List Vi.Node)) (a : (List Vi.Node)) (b : (List Vi.Node)) (m : Int) (R : ((p : Pat) × p.V) → Prop) : fnVc (cx_merge_merger_lists nn) an_merge_merger_lists 1 Try.f62 I_merge_merger_lists [O_merge_merger_lists] (o, a, b, m, ()) R = merge_merger_lists.vc (fun y0 y1 => R ⟨O_merge_merger_lists, (y0, y1, ())⟩) nn o a b m := by kernel_rfl
theorem fs_merge_merger_lists (nn : Nat) (ih_merge_merger_kept : CtrOk Try.prog 83 (r_merge_merger_kept nn)) : CtrsOk Try.prog [(31, [c_blend_Nodes]), (83, [r_merge_merger_kept nn]), (82, [c_merge_add]), (81, [c_tree_Copy]), (84, [c_merge_merger_mark])] := ⟨(ctr1 (ctr_blend_Nodes)), (ctr1 ih_merge_merger_kept), (ctr1 (ctr_merge_add)), (ctr1 (ctr_tree_Copy)), (ctr1 (ctr_merge_merger_mark)), trivial⟩
theorem grp_mrg (nn : Nat) : CtrOk Try.prog 83 (r_merge_merger_kept nn) ∧ CtrOk Try.prog 62 (r_merge_merger_lists nn) := by
  induction nn with
  | zero => exact ⟨⟨⟨_, Try.func83, by kernel_rfl, by kernel_rfl⟩, fun H v r h => absurd h.1.2 (Nat.not_lt_zero _)⟩, ⟨⟨_, Try.func62, by kernel_rfl, by kernel_rfl⟩, fun H v r h => absurd h.1.2 (Nat.not_lt_zero _)⟩⟩
  | succ nn ih =>
  obtain ⟨ih_merge_merger_kept, ih_merge_merger_lists⟩ := ih
  refine ⟨⟨⟨_, Try.func83, by kernel_rfl, by kernel_rfl⟩, ?_⟩, ⟨⟨_, Try.func62, by kernel_rfl, by kernel_rfl⟩, ?_⟩⟩
  · intro H v r h
    obtain ⟨o, a, b, m, ⟨⟩⟩ := v
    obtain ⟨h, rfl⟩ := h
    exact mk_ok _ (fs_merge_merger_kept nn ih_merge_merger_lists) (an := an_merge_merger_kept) (outs := [O_merge_merger_kept]) Try.func83 (Nat.le_of_ble_eq_true rfl) (Eq.mpr (eq_merge_merger_kept nn o a b m _) (merge_merger_kept.ok nn _ o a b m h rfl))
  · intro H v r h
    obtain ⟨o, a, b, m, ⟨⟩⟩ := v
    obtain ⟨h, rfl⟩ := h
    exact mk_ok _ (fs_merge_merger_lists nn ih_merge_merger_kept) (an := an_merge_merger_lists) (outs := [O_merge_merger_lists]) Try.func62 (Nat.le_of_ble_eq_true rfl) (Eq.mpr (eq_merge_merger_lists nn o a b m _) (merge_merger_lists.ok nn _ o a b m h rfl))

theorem ctr_merge_merger_lists : CtrOk Try.prog 62 c_merge_merger_lists := ⟨⟨_, Try.func62, by kernel_rfl, by kernel_rfl⟩, fun H v r h => ((grp_mrg (Sp.mMrg v.1 v.2.1 v.2.2.1 v.2.2.2.1 + 1)).2.2 H v r ⟨⟨h.1, Nat.lt_succ_self _⟩, h.2⟩).body⟩
abbrev I_merge_Three : Pat := { slots := [(0, .ce (.v (.sl .node))), (1, .ce (.v (.sl .node))), (2, .ce (.v (.sl .node)))], ents := [] }
abbrev O_merge_Three : Pat := { slots := [(0, .ag (.pair (.sl .node) (.int .i64)))], ents := [] }
def c_merge_Three : Ctr := { k0 := 0, inp := I_merge_Three, body := fun v => .need (Sp.mrg3.pre v.1 v.2.1 v.2.2.1) (.ret ⟨O_merge_Three, ((Sp.mrg3 v.1 v.2.1 v.2.2.1), ())⟩), ex := 0 }
def an_merge_Three : Ann := []
def cx_merge_Three : Cx := mkCx [(62, [c_merge_merger_lists])]
theorem eq_merge_Three (o : (List Vi.Node)) (a : (List Vi.Node)) (b : (List Vi.Node)) (R : ((p : Pat) × p.V) → Prop) : fnVc (cx_merge_Three) an_merge_Three 0 Try.f36 I_merge_Three [O_merge_Three] (o, a, b, ()) R = merge_Three.vc (fun y0 => R ⟨O_merge_Three, (y0, ())⟩) o a b := by kernel_rfl
theorem fs_merge_Three : CtrsOk Try.prog [(62, [c_merge_merger_lists])] := ⟨ctr1 (ctr_merge_merger_lists), trivial⟩
theorem vc_merge_Three (H : Nat → Entry) (v : c_merge_Three.inp.V) (r : (p : Pat) × p.V) (h : (c_merge_Three.body v).Sel H r) : fnVc (cx_merge_Three) an_merge_Three 0 Try.f36 c_merge_Three.inp [O_merge_Three] v (fun r' => r' = r) := by
  obtain ⟨o, a, b, ⟨⟩⟩ := v
  obtain ⟨h, rfl⟩ := h
  exact Eq.mpr (eq_merge_Three o a b _) (merge_Three.ok _ o a b h rfl)
theorem ctr_merge_Three : CtrOk Try.prog 36 c_merge_Three := ⟨⟨_, Try.func36, by kernel_rfl, by kernel_rfl⟩, fun H v r h => mk_ok _ (fs_merge_Three) (an := an_merge_Three) (outs := [O_merge_Three]) Try.func36 (by decide) (vc_merge_Three H v r h)⟩
abbrev I_rectolaw26_word : Pat := { slots := [(0, .ce (.v .str))], ents := [] }
abbrev O_rectolaw26_word : Pat := { slots := [(0, .ce (.v (.sl .node)))], ents := [] }
def c_rectolaw26_word : Ctr := { k0 := 0, inp := I_rectolaw26_word, body := fun v => .ret ⟨O_rectolaw26_word, ((Sp.wordN v.1), ())⟩, ex := 0 }
def an_rectolaw26_word : Ann := []
def cx_rectolaw26_word : Cx := mkCx []
theorem eq_rectolaw26_word (s : Str) (R : ((p : Pat) × p.V) → Prop) : fnVc (cx_rectolaw26_word) an_rectolaw26_word 0 Try.f58 I_rectolaw26_word [O_rectolaw26_word] (s, ()) R = rectolaw26_word.vc (fun y0 => R ⟨O_rectolaw26_word, (y0, ())⟩) s := by kernel_rfl
theorem fs_rectolaw26_word : CtrsOk Try.prog [] := trivial
theorem vc_rectolaw26_word (H : Nat → Entry) (v : c_rectolaw26_word.inp.V) (r : (p : Pat) × p.V) (h : (c_rectolaw26_word.body v).Sel H r) : fnVc (cx_rectolaw26_word) an_rectolaw26_word 0 Try.f58 c_rectolaw26_word.inp [O_rectolaw26_word] v (fun r' => r' = r) := by
  obtain ⟨s, ⟨⟩⟩ := v
  obtain rfl := h
  exact Eq.mpr (eq_rectolaw26_word s _) (rectolaw26_word.ok _ s  rfl)
theorem ctr_rectolaw26_word : CtrOk Try.prog 58 c_rectolaw26_word := ⟨⟨_, Try.func58, by kernel_rfl, by kernel_rfl⟩, fun H v r h => mk_ok _ (fs_rectolaw26_word) (an := an_rectolaw26_word) (outs := [O_rectolaw26_word]) Try.func58 (by decide) (vc_rectolaw26_word H v r h)⟩
abbrev I_rectolaw26_joined : Pat := { slots := [(0, .ce (.v (.sl .node)))], ents := [] }
abbrev O_rectolaw26_joined : Pat := { slots := [(0, .ce (.v .bool))], ents := [] }
def r_rectolaw26_joined (nn : Nat) : Ctr := { k0 := 0, inp := I_rectolaw26_joined, body := fun v => .need (Sp.joinedT.pre v.1 ∧ Sp.mJn v.1 < nn) (.ret ⟨O_rectolaw26_joined, ((Sp.joinedT v.1), ())⟩), ex := 0 }
def c_rectolaw26_joined : Ctr := { k0 := 0, inp := I_rectolaw26_joined, body := fun v => .need (Sp.joinedT.pre v.1) (.ret ⟨O_rectolaw26_joined, ((Sp.joinedT v.1), ())⟩), ex := 0 }
def an_rectolaw26_joined : Ann := [(2, { slots := [(0, .ce (.v (.sl .node))), (5, .ce (.v (.sl .node))), (6, .ce (.v (.int .i64))), (7, .ce (.v (.int .i64)))], ents := [] })]
def cx_rectolaw26_joined (nn : Nat) : Cx := mkCx [(34, [r_rectolaw26_joined nn])]
theorem eq_rectolaw26_joined (nn : Nat) (l : (List Vi.Node)) (R : ((p : Pat) × p.V) → Prop) : fnVc (cx_rectolaw26_joined nn) an_rectolaw26_joined 0 Try.f34 I_rectolaw26_joined [O_rectolaw26_joined] (l, ()) R = rectolaw26_joined.vc (fun y0 => R ⟨O_rectolaw26_joined, (y0, ())⟩) nn l := by kernel_rfl
theorem fs_rectolaw26_joined (nn : Nat) (ih_rectolaw26_joined : CtrOk Try.prog 34 (r_rectolaw26_joined nn)) : CtrsOk Try.prog [(34, [r_rectolaw26_joined nn])] := ⟨(ctr1 ih_rectolaw26_joined), trivial⟩
theorem grp_joined (nn : Nat) : CtrOk Try.prog 34 (r_rectolaw26_joined nn) := by
  induction nn with
  | zero => exact ⟨⟨_, Try.func34, by kernel_rfl, by kernel_rfl⟩, fun H v r h => absurd h.1.2 (Nat.not_lt_zero _)⟩
  | succ nn ih =>
  have ih_rectolaw26_joined := ih
  refine ⟨⟨_, Try.func34, by kernel_rfl, by kernel_rfl⟩, ?_⟩
  · intro H v r h
    obtain ⟨l, ⟨⟩⟩ := v
    obtain ⟨h, rfl⟩ := h
    exact mk_ok _ (fs_rectolaw26_joined nn ih_rectolaw26_joined) (an := an_rectolaw26_joined) (outs := [O_rectolaw26_joined]) Try.func34 (Nat.le_of_ble_eq_true rfl) (Eq.mpr (eq_rectolaw26_joined nn l _) (rectolaw26_joined.ok nn _ l h rfl))

theorem ctr_rectolaw26_joined : CtrOk Try.prog 34 c_rectolaw26_joined := ⟨⟨_, Try.func34, by kernel_rfl, by kernel_rfl⟩, fun H v r h => ((grp_joined (Sp.mJn v.1 + 1)).2 H v r ⟨⟨h.1, Nat.lt_succ_self _⟩, h.2⟩).body⟩
abbrev I_rectolaw26_large : Pat := { slots := [(0, .ce (.v (.sl .node)))], ents := [] }
abbrev O_rectolaw26_large : Pat := { slots := [(0, .ce (.v .bool))], ents := [] }
def c_rectolaw26_large : Ctr := { k0 := 0, inp := I_rectolaw26_large, body := fun v => .ret ⟨O_rectolaw26_large, ((Sp.large160 v.1), ())⟩, ex := 0 }
def an_rectolaw26_large : Ann := []
def cx_rectolaw26_large : Cx := mkCx [(40, [c_rectoplain_Large])]
theorem eq_rectolaw26_large (l : (List Vi.Node)) (R : ((p : Pat) × p.V) → Prop) : fnVc (cx_rectolaw26_large) an_rectolaw26_large 0 Try.f33 I_rectolaw26_large [O_rectolaw26_large] (l, ()) R = rectolaw26_large.vc (fun y0 => R ⟨O_rectolaw26_large, (y0, ())⟩) l := by kernel_rfl
theorem fs_rectolaw26_large : CtrsOk Try.prog [(40, [c_rectoplain_Large])] := ⟨ctr1 (ctr_rectoplain_Large), trivial⟩
theorem vc_rectolaw26_large (H : Nat → Entry) (v : c_rectolaw26_large.inp.V) (r : (p : Pat) × p.V) (h : (c_rectolaw26_large.body v).Sel H r) : fnVc (cx_rectolaw26_large) an_rectolaw26_large 0 Try.f33 c_rectolaw26_large.inp [O_rectolaw26_large] v (fun r' => r' = r) := by
  obtain ⟨l, ⟨⟩⟩ := v
  obtain rfl := h
  exact Eq.mpr (eq_rectolaw26_large l _) (rectolaw26_large.ok _ l  rfl)
theorem ctr_rectolaw26_large : CtrOk Try.prog 33 c_rectolaw26_large := ⟨⟨_, Try.func33, by kernel_rfl, by kernel_rfl⟩, fun H v r h => mk_ok _ (fs_rectolaw26_large) (an := an_rectolaw26_large) (outs := [O_rectolaw26_large]) Try.func33 (by decide) (vc_rectolaw26_large H v r h)⟩
abbrev I_rectolaw26_clash : Pat := { slots := [], ents := [] }
abbrev O_rectolaw26_clash : Pat := { slots := [(0, .ce (.v .bool))], ents := [] }
def c_rectolaw26_clash : Ctr := { k0 := 0, inp := I_rectolaw26_clash, body := fun v => .ret ⟨O_rectolaw26_clash, ((Sp.tt), ())⟩, ex := 0 }
def an_rectolaw26_clash : Ann := []
def cx_rectolaw26_clash : Cx := mkCx [(58, [c_rectolaw26_word]), (36, [c_merge_Three]), (59, [c_merge_IsMark]), (60, [c_merge_Marks]), (61, [c_merge_Pick]), (37, [c_rectoplain_Nodes])]
theorem eq_rectolaw26_clash  (R : ((p : Pat) × p.V) → Prop) : fnVc (cx_rectolaw26_clash) an_rectolaw26_clash 0 Try.f35 I_rectolaw26_clash [O_rectolaw26_clash] (()) R = rectolaw26_clash.vc (fun y0 => R ⟨O_rectolaw26_clash, (y0, ())⟩)  := by kernel_rfl
theorem fs_rectolaw26_clash : CtrsOk Try.prog [(58, [c_rectolaw26_word]), (36, [c_merge_Three]), (59, [c_merge_IsMark]), (60, [c_merge_Marks]), (61, [c_merge_Pick]), (37, [c_rectoplain_Nodes])] := ⟨ctr1 (ctr_rectolaw26_word), ctr1 (ctr_merge_Three), ctr1 (ctr_merge_IsMark), ctr1 (ctr_merge_Marks), ctr1 (ctr_merge_Pick), ctr1 (ctr_rectoplain_Nodes), trivial⟩
theorem vc_rectolaw26_clash (H : Nat → Entry) (v : c_rectolaw26_clash.inp.V) (r : (p : Pat) × p.V) (h : (c_rectolaw26_clash.body v).Sel H r) : fnVc (cx_rectolaw26_clash) an_rectolaw26_clash 0 Try.f35 c_rectolaw26_clash.inp [O_rectolaw26_clash] v (fun r' => r' = r) := by
  obtain ⟨⟩ := v
  obtain rfl := h
  exact Eq.mpr (eq_rectolaw26_clash  _) (rectolaw26_clash.ok _   rfl)
theorem ctr_rectolaw26_clash : CtrOk Try.prog 35 c_rectolaw26_clash := ⟨⟨_, Try.func35, by kernel_rfl, by kernel_rfl⟩, fun H v r h => mk_ok _ (fs_rectolaw26_clash) (an := an_rectolaw26_clash) (outs := [O_rectolaw26_clash]) Try.func35 (by decide) (vc_rectolaw26_clash H v r h)⟩
abbrev I_rectolaw26_MergeOne : Pat := { slots := [(0, .ce (.v (.sl .node))), (1, .ce (.v (.sl .node)))], ents := [] }
abbrev O_rectolaw26_MergeOne : Pat := { slots := [(0, .ce (.v .bool))], ents := [] }
def c_rectolaw26_MergeOne : Ctr := { k0 := 0, inp := I_rectolaw26_MergeOne, body := fun v => .need (Sz (.sl .node) v.1 ∧ Sz (.sl .node) v.2.1) (.ret ⟨O_rectolaw26_MergeOne, ((Sp.tt), ())⟩), ex := 0 }
def an_rectolaw26_MergeOne : Ann := []
def cx_rectolaw26_MergeOne : Cx := mkCx [(33, [c_rectolaw26_large]), (34, [c_rectolaw26_joined]), (35, [c_rectolaw26_clash]), (36, [c_merge_Three]), (37, [c_rectoplain_Nodes])]
theorem eq_rectolaw26_MergeOne (o : (List Vi.Node)) (a : (List Vi.Node)) (R : ((p : Pat) × p.V) → Prop) : fnVc (cx_rectolaw26_MergeOne) an_rectolaw26_MergeOne 0 Try.f11 I_rectolaw26_MergeOne [O_rectolaw26_MergeOne] (o, a, ()) R = rectolaw26_MergeOne.vc (fun y0 => R ⟨O_rectolaw26_MergeOne, (y0, ())⟩) o a := by kernel_rfl
theorem fs_rectolaw26_MergeOne : CtrsOk Try.prog [(33, [c_rectolaw26_large]), (34, [c_rectolaw26_joined]), (35, [c_rectolaw26_clash]), (36, [c_merge_Three]), (37, [c_rectoplain_Nodes])] := ⟨ctr1 (ctr_rectolaw26_large), ctr1 (ctr_rectolaw26_joined), ctr1 (ctr_rectolaw26_clash), ctr1 (ctr_merge_Three), ctr1 (ctr_rectoplain_Nodes), trivial⟩
theorem vc_rectolaw26_MergeOne (H : Nat → Entry) (v : c_rectolaw26_MergeOne.inp.V) (r : (p : Pat) × p.V) (h : (c_rectolaw26_MergeOne.body v).Sel H r) : fnVc (cx_rectolaw26_MergeOne) an_rectolaw26_MergeOne 0 Try.f11 c_rectolaw26_MergeOne.inp [O_rectolaw26_MergeOne] v (fun r' => r' = r) := by
  obtain ⟨o, a, ⟨⟩⟩ := v
  obtain ⟨h, rfl⟩ := h
  exact Eq.mpr (eq_rectolaw26_MergeOne o a _) (rectolaw26_MergeOne.ok _ o a h rfl)
theorem ctr_rectolaw26_MergeOne : CtrOk Try.prog 11 c_rectolaw26_MergeOne := ⟨⟨_, Try.func11, by kernel_rfl, by kernel_rfl⟩, fun H v r h => mk_ok _ (fs_rectolaw26_MergeOne) (an := an_rectolaw26_MergeOne) (outs := [O_rectolaw26_MergeOne]) Try.func11 (by decide) (vc_rectolaw26_MergeOne H v r h)⟩
abbrev I_rectolaw26_MergeTurned : Pat := { slots := [(0, .ce (.v (.sl .node))), (1, .ce (.v (.sl .node))), (2, .ce (.v (.sl .node)))], ents := [] }
abbrev O_rectolaw26_MergeTurned : Pat := { slots := [(0, .ce (.v .bool))], ents := [] }
def c_rectolaw26_MergeTurned : Ctr := { k0 := 0, inp := I_rectolaw26_MergeTurned, body := fun v => .need (Sz (.sl .node) v.1 ∧ Sz (.sl .node) v.2.1 ∧ Sz (.sl .node) v.2.2.1) (.ret ⟨O_rectolaw26_MergeTurned, ((Sp.tt), ())⟩), ex := 0 }
def an_rectolaw26_MergeTurned : Ann := []
def cx_rectolaw26_MergeTurned : Cx := mkCx [(33, [c_rectolaw26_large]), (35, [c_rectolaw26_clash]), (36, [c_merge_Three])]
theorem eq_rectolaw26_MergeTurned (o : (List Vi.Node)) (a : (List Vi.Node)) (b : (List Vi.Node)) (R : ((p : Pat) × p.V) → Prop) : fnVc (cx_rectolaw26_MergeTurned) an_rectolaw26_MergeTurned 0 Try.f12 I_rectolaw26_MergeTurned [O_rectolaw26_MergeTurned] (o, a, b, ()) R = rectolaw26_MergeTurned.vc (fun y0 => R ⟨O_rectolaw26_MergeTurned, (y0, ())⟩) o a b := by kernel_rfl
theorem fs_rectolaw26_MergeTurned : CtrsOk Try.prog [(33, [c_rectolaw26_large]), (35, [c_rectolaw26_clash]), (36, [c_merge_Three])] := ⟨ctr1 (ctr_rectolaw26_large), ctr1 (ctr_rectolaw26_clash), ctr1 (ctr_merge_Three), trivial⟩
theorem vc_rectolaw26_MergeTurned (H : Nat → Entry) (v : c_rectolaw26_MergeTurned.inp.V) (r : (p : Pat) × p.V) (h : (c_rectolaw26_MergeTurned.body v).Sel H r) : fnVc (cx_rectolaw26_MergeTurned) an_rectolaw26_MergeTurned 0 Try.f12 c_rectolaw26_MergeTurned.inp [O_rectolaw26_MergeTurned] v (fun r' => r' = r) := by
  obtain ⟨o, a, b, ⟨⟩⟩ := v
  obtain ⟨h, rfl⟩ := h
  exact Eq.mpr (eq_rectolaw26_MergeTurned o a b _) (rectolaw26_MergeTurned.ok _ o a b h rfl)
theorem ctr_rectolaw26_MergeTurned : CtrOk Try.prog 12 c_rectolaw26_MergeTurned := ⟨⟨_, Try.func12, by kernel_rfl, by kernel_rfl⟩, fun H v r h => mk_ok _ (fs_rectolaw26_MergeTurned) (an := an_rectolaw26_MergeTurned) (outs := [O_rectolaw26_MergeTurned]) Try.func12 (by decide) (vc_rectolaw26_MergeTurned H v r h)⟩
end Vs
