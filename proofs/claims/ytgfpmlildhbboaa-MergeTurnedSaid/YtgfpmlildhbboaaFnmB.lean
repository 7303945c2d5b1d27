/- Functions held against what they tell. Written by a program of this session. -/
import Derived.Test.YtgfpmlildhbboaaPlB
import Derived.Test.YtgfpmlildhbboaaViThree
import Derived.Test.YtgfpmlildhbboaaFnmA
set_option linter.unnecessarySimpa false
set_option linter.unusedVariables false
set_option linter.unusedSectionVars false
set_option linter.unusedSimpArgs false
set_option autoImplicit false
set_option linter.unusedVariables false
set_option maxRecDepth 100000
attribute [local irreducible] Vi.fnVc
namespace Vs
open Go Vi Go.Proofs
abbrev I_blend_fellow_1 : Pat := { slots := [(0, .ag (.pair (.int .i64) (.pair (.int .i64) .bool))), (1, .ce (.ptr 0 0))], ents := [.box 3 [.v (.int .i64)]] }
abbrev O_blend_fellow_1 : Pat := { slots := [(0, .ce (.v .bool))], ents := [.box 3 [.v (.int .i64)]] }
def c_blend_fellow_1 : Ctr := { k0 := 1, inp := I_blend_fellow_1, body := fun v => .ret ⟨O_blend_fellow_1, (Sp.isA v.1 v.2.1, v.2.1, ())⟩ }
def an_blend_fellow_1 : Ann := []
def cx_blend_fellow_1 : Cx := mkCx []
theorem eq_blend_fellow_1 (p : (Int × (Int × Bool))) (at_ : Int) (R : ((p : Pat) × p.V) → Prop) : fnVc (cx_blend_fellow_1) an_blend_fellow_1 1 Try.f88 I_blend_fellow_1 [O_blend_fellow_1] (p, at_, ()) R = blend_fellow_1.vc (fun y0 y1 => R ⟨O_blend_fellow_1, (y0, y1, ())⟩) p at_ := by kernel_rfl
theorem fs_blend_fellow_1 : CtrsOk Try.prog [] := trivial
theorem vc_blend_fellow_1 (H : Nat → Entry) (v : c_blend_fellow_1.inp.V) (r : (p : Pat) × p.V) (h : (c_blend_fellow_1.body v).Sel H r) : fnVc (cx_blend_fellow_1) an_blend_fellow_1 1 Try.f88 c_blend_fellow_1.inp [O_blend_fellow_1] v (fun r' => r' = r) := by
  obtain ⟨p, at_, ⟨⟩⟩ := v
  obtain rfl := h
  exact Eq.mpr (eq_blend_fellow_1 p at_ _) (blend_fellow_1.ok _ p at_  rfl)
theorem ctr_blend_fellow_1 : CtrOk Try.prog 88 c_blend_fellow_1 := ⟨⟨_, Try.func88, by kernel_rfl, by kernel_rfl⟩, fun H v r h => mk_ok _ (fs_blend_fellow_1) (an := an_blend_fellow_1) (outs := [O_blend_fellow_1]) Try.func88 (by decide) (vc_blend_fellow_1 H v r h)⟩
abbrev I_slices_IndexFunc_match_Pair_match_Pair : Pat := { slots := [(0, .ce (.v (.sl (.pair (.int .i64) (.pair (.int .i64) .bool))))), (1, .ce (.fn 88 [] [0]))], ents := [.box 3 [.v (.int .i64)]] }
abbrev O_slices_IndexFunc_match_Pair_match_Pair : Pat := { slots := [(0, .ce (.v (.int .i64)))], ents := [.box 3 [.v (.int .i64)]] }
def c_slices_IndexFunc_match_Pair_match_Pair : Ctr := { k0 := 1, inp := I_slices_IndexFunc_match_Pair_match_Pair, body := fun v => .need (Sp.idxA.pre v.1) (.ret ⟨O_slices_IndexFunc_match_Pair_match_Pair, (Sp.idxA v.1 v.2.1, v.2.1, ())⟩) }
def an_slices_IndexFunc_match_Pair_match_Pair : Ann := [(2, { slots := [(0, .ce (.v (.sl (.pair (.int .i64) (.pair (.int .i64) .bool))))), (1, .ce (.fn 88 [] [0])), (7, .ce (.v (.int .i64))), (8, .ce (.v (.int .i64)))], ents := [.box 3 [.v (.int .i64)]] })]
def cx_slices_IndexFunc_match_Pair_match_Pair : Cx := mkCx [(88, [c_blend_fellow_1])]
theorem eq_slices_IndexFunc_match_Pair_match_Pair (l : (List (Int × (Int × Bool)))) (at_ : Int) (R : ((p : Pat) × p.V) → Prop) : fnVc (cx_slices_IndexFunc_match_Pair_match_Pair) an_slices_IndexFunc_match_Pair_match_Pair 1 Try.f87 I_slices_IndexFunc_match_Pair_match_Pair [O_slices_IndexFunc_match_Pair_match_Pair] (l, at_, ()) R = slices_IndexFunc_match_Pair_match_Pair.vc (fun y0 y1 => R ⟨O_slices_IndexFunc_match_Pair_match_Pair, (y0, y1, ())⟩) l at_ := by kernel_rfl
theorem fs_slices_IndexFunc_match_Pair_match_Pair : CtrsOk Try.prog [(88, [c_blend_fellow_1])] := ⟨ctr1 ctr_blend_fellow_1, trivial⟩
theorem vc_slices_IndexFunc_match_Pair_match_Pair (H : Nat → Entry) (v : c_slices_IndexFunc_match_Pair_match_Pair.inp.V) (r : (p : Pat) × p.V) (h : (c_slices_IndexFunc_match_Pair_match_Pair.body v).Sel H r) : fnVc (cx_slices_IndexFunc_match_Pair_match_Pair) an_slices_IndexFunc_match_Pair_match_Pair 1 Try.f87 c_slices_IndexFunc_match_Pair_match_Pair.inp [O_slices_IndexFunc_match_Pair_match_Pair] v (fun r' => r' = r) := by
  obtain ⟨l, at_, ⟨⟩⟩ := v
  obtain ⟨h, rfl⟩ := h
  exact Eq.mpr (eq_slices_IndexFunc_match_Pair_match_Pair l at_ _) (slices_IndexFunc_match_Pair_match_Pair.ok _ l at_ h rfl)
theorem ctr_slices_IndexFunc_match_Pair_match_Pair : CtrOk Try.prog 87 c_slices_IndexFunc_match_Pair_match_Pair := ⟨⟨_, Try.func87, by kernel_rfl, by kernel_rfl⟩, fun H v r h => mk_ok _ (fs_slices_IndexFunc_match_Pair_match_Pair) (an := an_slices_IndexFunc_match_Pair_match_Pair) (outs := [O_slices_IndexFunc_match_Pair_match_Pair]) Try.func87 (by decide) (vc_slices_IndexFunc_match_Pair_match_Pair H v r h)⟩
abbrev I_blend_fellow : Pat := { slots := [(0, .ce (.v (.sl (.pair (.int .i64) (.pair (.int .i64) .bool))))), (1, .ce (.v (.int .i64)))], ents := [] }
abbrev O_blend_fellow : Pat := { slots := [(0, .ce (.v (.int .i64)))], ents := [] }
def c_blend_fellow : Ctr := { k0 := 0, inp := I_blend_fellow, body := fun v => .need (Sp.fellow.pre v.1 v.2.1) (.ret ⟨O_blend_fellow, ((Sp.fellow v.1 v.2.1), ())⟩) }
def an_blend_fellow : Ann := []
def cx_blend_fellow : Cx := mkCx [(87, [c_slices_IndexFunc_match_Pair_match_Pair])]
theorem eq_blend_fellow (l : (List (Int × (Int × Bool)))) (at_ : Int) (R : ((p : Pat) × p.V) → Prop) : fnVc (cx_blend_fellow) an_blend_fellow 0 Try.f71 I_blend_fellow [O_blend_fellow] (l, at_, ()) R = blend_fellow.vc (fun y0 => R ⟨O_blend_fellow, (y0, ())⟩) l at_ := by kernel_rfl
theorem fs_blend_fellow : CtrsOk Try.prog [(87, [c_slices_IndexFunc_match_Pair_match_Pair])] := ⟨ctr1 ctr_slices_IndexFunc_match_Pair_match_Pair, trivial⟩
theorem vc_blend_fellow (H : Nat → Entry) (v : c_blend_fellow.inp.V) (r : (p : Pat) × p.V) (h : (c_blend_fellow.body v).Sel H r) : fnVc (cx_blend_fellow) an_blend_fellow 0 Try.f71 c_blend_fellow.inp [O_blend_fellow] v (fun r' => r' = r) := by
  obtain ⟨l, at_, ⟨⟩⟩ := v
  obtain ⟨h, rfl⟩ := h
  exact Eq.mpr (eq_blend_fellow l at_ _) (blend_fellow.ok _ l at_ h rfl)
theorem ctr_blend_fellow : CtrOk Try.prog 71 c_blend_fellow := ⟨⟨_, Try.func71, by kernel_rfl, by kernel_rfl⟩, fun H v r h => mk_ok _ (fs_blend_fellow) (an := an_blend_fellow) (outs := [O_blend_fellow]) Try.func71 (by decide) (vc_blend_fellow H v r h)⟩
end Vs
