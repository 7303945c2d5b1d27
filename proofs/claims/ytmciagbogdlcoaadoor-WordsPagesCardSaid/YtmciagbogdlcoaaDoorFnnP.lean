/- Functions held against what they tell. Written by a program of this session. -/
import Derived.Test.YtmciagbogdlcoaaDoorPlP
import Derived.Test.YtmciagbogdlcoaaDoorViThree
import Derived.Test.YtmciagbogdlcoaaDoorFnnU
set_option linter.unnecessarySimpa false
set_option linter.unusedVariables false
set_option linter.unusedSectionVars false
set_option linter.unusedSimpArgs false
set_option autoImplicit false
set_option linter.unusedVariables false
set_option maxRecDepth 100000
attribute [local irreducible] Vi.fnVc
namespace Vs
open Go Vi Go.Proofs
abbrev I_rectoplain_Texts : Pat := { slots := [(0, .ce (.v (.sl .str))), (1, .ce (.v (.sl .str)))], ents := [] }
abbrev O_rectoplain_Texts : Pat := { slots := [(0, .ce (.v .bool))], ents := [] }
def c_rectoplain_Texts : Ctr := { k0 := 0, inp := I_rectoplain_Texts, body := fun v => .need (Sp.eqL.pre v.1 v.2.1) (.ret ⟨O_rectoplain_Texts, ((Sp.eqL v.1 v.2.1), ())⟩), ex := 0 }
def an_rectoplain_Texts : Ann := [(2, { slots := [(0, .ce (.v (.sl .str))), (1, .ce (.v (.sl .str))), (7, .ce (.v (.int .i64))), (8, .ce (.v (.int .i64)))], ents := [] })]
def cx_rectoplain_Texts : Cx := mkCx []
theorem eq_rectoplain_Texts (a : (List Str)) (b : (List Str)) (R : ((p : Pat) × p.V) → Prop) : fnVc (cx_rectoplain_Texts) an_rectoplain_Texts 0 Tryd.f16 I_rectoplain_Texts [O_rectoplain_Texts] (a, b, ()) R = rectoplain_Texts.vc (fun y0 => R ⟨O_rectoplain_Texts, (y0, ())⟩) a b := by kernel_rfl
theorem fs_rectoplain_Texts : CtrsOk Tryd.prog [] gl := trivial
theorem vc_rectoplain_Texts (H : Nat → Entry) (v : c_rectoplain_Texts.inp.V) (r : (p : Pat) × p.V) (h : (c_rectoplain_Texts.body v).Sel H r) : fnVc (cx_rectoplain_Texts) an_rectoplain_Texts 0 Tryd.f16 c_rectoplain_Texts.inp [O_rectoplain_Texts] v (fun r' => r' = r) := by
  obtain ⟨a, b, ⟨⟩⟩ := v
  obtain ⟨h, rfl⟩ := h
  exact Eq.mpr (eq_rectoplain_Texts a b _) (rectoplain_Texts.ok _ a b h rfl)
theorem ctr_rectoplain_Texts : CtrOk Tryd.prog 16 c_rectoplain_Texts gl := ⟨⟨_, Tryd.func16, by kernel_rfl, by kernel_rfl⟩, fun H v r h => mk_ok _ (fs_rectoplain_Texts) (an := an_rectoplain_Texts) (outs := [O_rectoplain_Texts]) Tryd.func16 (by decide) (vc_rectoplain_Texts H v r h)⟩
abbrev I_rectoplain_Large : Pat := { slots := [(0, .ce (.v (.sl .node))), (1, .ce (.ptr 0 0)), (2, .ce (.v (.int .i64)))], ents := [.box 44 [.v (.int .i64)]] }
abbrev O_rectoplain_Large : Pat := { slots := [(0, .ce (.v .bool))], ents := [.box 44 [.v (.int .i64)]] }
def r_rectoplain_Large (nn : Nat) : Ctr := { k0 := 1, inp := I_rectoplain_Large, body := fun v => .need (Sp.lg.pre v.1 v.2.1 v.2.2.1 ∧ Sp.mLg v.1 v.2.1 v.2.2.1 < nn) (.ret ⟨O_rectoplain_Large, ((Sp.lg v.1 v.2.1 v.2.2.1).1, (Sp.lg v.1 v.2.1 v.2.2.1).2, ())⟩), ex := 0 }
def c_rectoplain_Large : Ctr := { k0 := 1, inp := I_rectoplain_Large, body := fun v => .need (Sp.lg.pre v.1 v.2.1 v.2.2.1) (.ret ⟨O_rectoplain_Large, ((Sp.lg v.1 v.2.1 v.2.2.1).1, (Sp.lg v.1 v.2.1 v.2.2.1).2, ())⟩), ex := 0 }
def an_rectoplain_Large : Ann := [(4, { slots := [(1, .ce (.ptr 0 0)), (2, .ce (.v (.int .i64))), (18, .ce (.v (.sl .node))), (19, .ce (.v (.int .i64))), (20, .ce (.v (.int .i64)))], ents := [.box 44 [.v (.int .i64)]] }), (11, { slots := [(1, .ce (.ptr 0 0)), (2, .ce (.v (.int .i64))), (8, .ce (.ptr 1 0)), (18, .ce (.v (.sl .node))), (19, .ce (.v (.int .i64))), (20, .ce (.v (.int .i64))), (72, .ce (.v (.sl (.pair .str .str)))), (73, .ce (.v (.int .i64))), (74, .ce (.v (.int .i64)))], ents := [.box 44 [.v (.int .i64)], .box 25 [.v (.int .i64), .v (.int .i64), .v .str, .v (.sl (.pair .str .str)), .v .str, .v (.sl .node)]] })]
def cx_rectoplain_Large (nn : Nat) : Cx := mkCx [(27, [r_rectoplain_Large nn])]
theorem eq_rectoplain_Large (nn : Nat) (l : (List Vi.Node)) (depth : Int) (room : Int) (R : ((p : Pat) × p.V) → Prop) : fnVc (cx_rectoplain_Large nn) an_rectoplain_Large 1 Tryd.f27 I_rectoplain_Large [O_rectoplain_Large] (l, depth, room, ()) R = rectoplain_Large.vc (fun y0 y1 => R ⟨O_rectoplain_Large, (y0, y1, ())⟩) nn l depth room := by kernel_rfl
theorem fs_rectoplain_Large (nn : Nat) (ih_rectoplain_Large : CtrOk Tryd.prog 27 (r_rectoplain_Large nn) gl) : CtrsOk Tryd.prog [(27, [r_rectoplain_Large nn])] gl := ⟨(ctr1 ih_rectoplain_Large), trivial⟩
theorem grp_large (nn : Nat) : CtrOk Tryd.prog 27 (r_rectoplain_Large nn) gl := by
  induction nn with
  | zero => exact ⟨⟨_, Tryd.func27, by kernel_rfl, by kernel_rfl⟩, fun H v r h => absurd h.1.2 (Nat.not_lt_zero _)⟩
  | succ nn ih =>
  have ih_rectoplain_Large := ih
  refine ⟨⟨_, Tryd.func27, by kernel_rfl, by kernel_rfl⟩, ?_⟩
  · intro H v r h
    obtain ⟨l, depth, room, ⟨⟩⟩ := v
    obtain ⟨h, rfl⟩ := h
    exact mk_ok _ (fs_rectoplain_Large nn ih_rectoplain_Large) (an := an_rectoplain_Large) (outs := [O_rectoplain_Large]) Tryd.func27 (Nat.le_of_ble_eq_true rfl) (Eq.mpr (eq_rectoplain_Large nn l depth room _) (rectoplain_Large.ok nn _ l depth room h rfl))

theorem ctr_rectoplain_Large : CtrOk Tryd.prog 27 c_rectoplain_Large gl := ⟨⟨_, Tryd.func27, by kernel_rfl, by kernel_rfl⟩, fun H v r h => ((grp_large (Sp.mLg v.1 v.2.1 v.2.2.1 + 1)).2 H v r ⟨⟨h.1, Nat.lt_succ_self _⟩, h.2⟩).body⟩
end Vs
