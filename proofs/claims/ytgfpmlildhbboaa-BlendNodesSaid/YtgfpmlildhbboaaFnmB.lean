/- Functions held against what they tell. Written by a program of this session. -/
import Derived.Test.YtgfpmlildhbboaaPlB
import Derived.Test.YtgfpmlildhbboaaViThree
import Derived.Test.YtgfpmlildhbboaaFnmA
set_option linter.unnecessarySimpa false
set_option linter.unusedVariables false
set_option linter.unusedSectionVars false
set_option linter.unusedSimpArgs false
set_option autoImplicit false
set_option linter.unusedVariables false
set_option maxRecDepth 100000
attribute [local irreducible] Vi.fnVc
namespace Vs
open Go Vi Go.Proofs
abbrev I_blend_of_string : Pat := { slots := [(0, .ce (.v (.sl .str))), (1, .ag (.pair (.int .i64) (.int .i64)))], ents := [] }
abbrev O_blend_of_string : Pat := { slots := [(0, .ce (.v (.sl .str)))], ents := [] }
def c_blend_of_string : Ctr := { k0 := 0, inp := I_blend_of_string, body := fun v => .need (Sp.ofS.pre v.1 v.2.1) (.ret ⟨O_blend_of_string, ((Sp.ofS v.1 v.2.1), ())⟩) }
def an_blend_of_string : Ann := []
def cx_blend_of_string : Cx := mkCx []
theorem eq_blend_of_string (l : (List Str)) (r : (Int × Int)) (R : ((p : Pat) × p.V) → Prop) : fnVc (cx_blend_of_string) an_blend_of_string 0 Try.f48 I_blend_of_string [O_blend_of_string] (l, r, ()) R = blend_of_string.vc (fun y0 => R ⟨O_blend_of_string, (y0, ())⟩) l r := by kernel_rfl
theorem fs_blend_of_string : CtrsOk Try.prog [] := trivial
theorem vc_blend_of_string (H : Nat → Entry) (v : c_blend_of_string.inp.V) (r : (p : Pat) × p.V) (h : (c_blend_of_string.body v).Sel H r) : fnVc (cx_blend_of_string) an_blend_of_string 0 Try.f48 c_blend_of_string.inp [O_blend_of_string] v (fun r' => r' = r) := by
  obtain ⟨l, r, ⟨⟩⟩ := v
  obtain ⟨h, rfl⟩ := h
  exact Eq.mpr (eq_blend_of_string l r _) (blend_of_string.ok _ l r h rfl)
theorem ctr_blend_of_string : CtrOk Try.prog 48 c_blend_of_string := ⟨⟨_, Try.func48, by kernel_rfl, by kernel_rfl⟩, fun H v r h => mk_ok _ (fs_blend_of_string) (an := an_blend_of_string) (outs := [O_blend_of_string]) Try.func48 (by decide) (vc_blend_of_string H v r h)⟩
abbrev I_slices_Equal_string_string : Pat := { slots := [(0, .ce (.v (.sl .str))), (1, .ce (.v (.sl .str)))], ents := [] }
abbrev O_slices_Equal_string_string : Pat := { slots := [(0, .ce (.v .bool))], ents := [] }
def c_slices_Equal_string_string : Ctr := { k0 := 0, inp := I_slices_Equal_string_string, body := fun v => .need (Sp.eqL.pre v.1 v.2.1) (.ret ⟨O_slices_Equal_string_string, ((Sp.eqL v.1 v.2.1), ())⟩) }
def an_slices_Equal_string_string : Ann := [(4, { slots := [(0, .ce (.v (.sl .str))), (1, .ce (.v (.sl .str))), (12, .ce (.v (.int .i64))), (13, .ce (.v (.int .i64)))], ents := [] })]
def cx_slices_Equal_string_string : Cx := mkCx []
theorem eq_slices_Equal_string_string (s1 : (List Str)) (s2 : (List Str)) (R : ((p : Pat) × p.V) → Prop) : fnVc (cx_slices_Equal_string_string) an_slices_Equal_string_string 0 Try.f50 I_slices_Equal_string_string [O_slices_Equal_string_string] (s1, s2, ()) R = slices_Equal_string_string.vc (fun y0 => R ⟨O_slices_Equal_string_string, (y0, ())⟩) s1 s2 := by kernel_rfl
theorem fs_slices_Equal_string_string : CtrsOk Try.prog [] := trivial
theorem vc_slices_Equal_string_string (H : Nat → Entry) (v : c_slices_Equal_string_string.inp.V) (r : (p : Pat) × p.V) (h : (c_slices_Equal_string_string.body v).Sel H r) : fnVc (cx_slices_Equal_string_string) an_slices_Equal_string_string 0 Try.f50 c_slices_Equal_string_string.inp [O_slices_Equal_string_string] v (fun r' => r' = r) := by
  obtain ⟨s1, s2, ⟨⟩⟩ := v
  obtain ⟨h, rfl⟩ := h
  exact Eq.mpr (eq_slices_Equal_string_string s1 s2 _) (slices_Equal_string_string.ok _ s1 s2 h rfl)
theorem ctr_slices_Equal_string_string : CtrOk Try.prog 50 c_slices_Equal_string_string := ⟨⟨_, Try.func50, by kernel_rfl, by kernel_rfl⟩, fun H v r h => mk_ok _ (fs_slices_Equal_string_string) (an := an_slices_Equal_string_string) (outs := [O_slices_Equal_string_string]) Try.func50 (by decide) (vc_slices_Equal_string_string H v r h)⟩
abbrev I_blend_kind_string : Pat := { slots := [(0, .sc [.v (.sl .str), .v (.sl .str), .v (.sl .str), .fn 50 [] []]), (1, .ag (.pair (.int .i64) (.pair (.pair (.int .i64) (.int .i64)) (.pair (.pair (.int .i64) (.int .i64)) (.pair (.int .i64) (.int .i64))))))], ents := [] }
abbrev O_blend_kind_string : Pat := { slots := [(0, .ce (.v (.int .i64)))], ents := [] }
def c_blend_kind_string : Ctr := { k0 := 0, inp := I_blend_kind_string, body := fun v => .need (Sp.kindT.pre v.1 v.2.1 v.2.2.1 v.2.2.2.1) (.ret ⟨O_blend_kind_string, (Sp.kindT v.1 v.2.1 v.2.2.1 v.2.2.2.1, ())⟩) }
def an_blend_kind_string : Ann := []
def cx_blend_kind_string : Cx := mkCx [(48, [c_blend_of_string]), (50, [c_slices_Equal_string_string])]
theorem eq_blend_kind_string (o : (List Str)) (a : (List Str)) (b : (List Str)) (p : (Int × ((Int × Int) × ((Int × Int) × (Int × Int))))) (R : ((p : Pat) × p.V) → Prop) : fnVc (cx_blend_kind_string) an_blend_kind_string 0 Try.f70 I_blend_kind_string [O_blend_kind_string] (o, a, b, p, ()) R = blend_kind_string.vc (fun y0 => R ⟨O_blend_kind_string, (y0, ())⟩) o a b p := by kernel_rfl
theorem fs_blend_kind_string : CtrsOk Try.prog [(48, [c_blend_of_string]), (50, [c_slices_Equal_string_string])] := ⟨ctr1 ctr_blend_of_string, ctr1 ctr_slices_Equal_string_string, trivial⟩
theorem vc_blend_kind_string (H : Nat → Entry) (v : c_blend_kind_string.inp.V) (r : (p : Pat) × p.V) (h : (c_blend_kind_string.body v).Sel H r) : fnVc (cx_blend_kind_string) an_blend_kind_string 0 Try.f70 c_blend_kind_string.inp [O_blend_kind_string] v (fun r' => r' = r) := by
  obtain ⟨o, a, b, p, ⟨⟩⟩ := v
  obtain ⟨h, rfl⟩ := h
  exact Eq.mpr (eq_blend_kind_string o a b p _) (blend_kind_string.ok _ o a b p h rfl)
theorem ctr_blend_kind_string : CtrOk Try.prog 70 c_blend_kind_string := ⟨⟨_, Try.func70, by kernel_rfl, by kernel_rfl⟩, fun H v r h => mk_ok _ (fs_blend_kind_string) (an := an_blend_kind_string) (outs := [O_blend_kind_string]) Try.func70 (by decide) (vc_blend_kind_string H v r h)⟩
abbrev I_blend_fellow_1 : Pat := { slots := [(0, .ag (.pair (.int .i64) (.pair (.int .i64) .bool))), (1, .ce (.ptr 0 0))], ents := [.box 3 [.v (.int .i64)]] }
abbrev O_blend_fellow_1 : Pat := { slots := [(0, .ce (.v .bool))], ents := [.box 3 [.v (.int .i64)]] }
def c_blend_fellow_1 : Ctr := { k0 := 1, inp := I_blend_fellow_1, body := fun v => .ret ⟨O_blend_fellow_1, (Sp.isA v.1 v.2.1, v.2.1, ())⟩ }
def an_blend_fellow_1 : Ann := []
def cx_blend_fellow_1 : Cx := mkCx []
theorem eq_blend_fellow_1 (p : (Int × (Int × Bool))) (at_ : Int) (R : ((p : Pat) × p.V) → Prop) : fnVc (cx_blend_fellow_1) an_blend_fellow_1 1 Try.f88 I_blend_fellow_1 [O_blend_fellow_1] (p, at_, ()) R = blend_fellow_1.vc (fun y0 y1 => R ⟨O_blend_fellow_1, (y0, y1, ())⟩) p at_ := by kernel_rfl
theorem fs_blend_fellow_1 : CtrsOk Try.prog [] := trivial
theorem vc_blend_fellow_1 (H : Nat → Entry) (v : c_blend_fellow_1.inp.V) (r : (p : Pat) × p.V) (h : (c_blend_fellow_1.body v).Sel H r) : fnVc (cx_blend_fellow_1) an_blend_fellow_1 1 Try.f88 c_blend_fellow_1.inp [O_blend_fellow_1] v (fun r' => r' = r) := by
  obtain ⟨p, at_, ⟨⟩⟩ := v
  obtain rfl := h
  exact Eq.mpr (eq_blend_fellow_1 p at_ _) (blend_fellow_1.ok _ p at_  rfl)
theorem ctr_blend_fellow_1 : CtrOk Try.prog 88 c_blend_fellow_1 := ⟨⟨_, Try.func88, by kernel_rfl, by kernel_rfl⟩, fun H v r h => mk_ok _ (fs_blend_fellow_1) (an := an_blend_fellow_1) (outs := [O_blend_fellow_1]) Try.func88 (by decide) (vc_blend_fellow_1 H v r h)⟩
abbrev I_slices_IndexFunc_match_Pair_match_Pair : Pat := { slots := [(0, .ce (.v (.sl (.pair (.int .i64) (.pair (.int .i64) .bool))))), (1, .ce (.fn 88 [] [0]))], ents := [.box 3 [.v (.int .i64)]] }
abbrev O_slices_IndexFunc_match_Pair_match_Pair : Pat := { slots := [(0, .ce (.v (.int .i64)))], ents := [.box 3 [.v (.int .i64)]] }
def c_slices_IndexFunc_match_Pair_match_Pair : Ctr := { k0 := 1, inp := I_slices_IndexFunc_match_Pair_match_Pair, body := fun v => .need (Sp.idxA.pre v.1) (.ret ⟨O_slices_IndexFunc_match_Pair_match_Pair, (Sp.idxA v.1 v.2.1, v.2.1, ())⟩) }
def an_slices_IndexFunc_match_Pair_match_Pair : Ann := [(2, { slots := [(0, .ce (.v (.sl (.pair (.int .i64) (.pair (.int .i64) .bool))))), (1, .ce (.fn 88 [] [0])), (7, .ce (.v (.int .i64))), (8, .ce (.v (.int .i64)))], ents := [.box 3 [.v (.int .i64)]] })]
def cx_slices_IndexFunc_match_Pair_match_Pair : Cx := mkCx [(88, [c_blend_fellow_1])]
theorem eq_slices_IndexFunc_match_Pair_match_Pair (l : (List (Int × (Int × Bool)))) (at_ : Int) (R : ((p : Pat) × p.V) → Prop) : fnVc (cx_slices_IndexFunc_match_Pair_match_Pair) an_slices_IndexFunc_match_Pair_match_Pair 1 Try.f87 I_slices_IndexFunc_match_Pair_match_Pair [O_slices_IndexFunc_match_Pair_match_Pair] (l, at_, ()) R = slices_IndexFunc_match_Pair_match_Pair.vc (fun y0 y1 => R ⟨O_slices_IndexFunc_match_Pair_match_Pair, (y0, y1, ())⟩) l at_ := by kernel_rfl
theorem fs_slices_IndexFunc_match_Pair_match_Pair : CtrsOk Try.prog [(88, [c_blend_fellow_1])] := ⟨ctr1 ctr_blend_fellow_1, trivial⟩
theorem vc_slices_IndexFunc_match_Pair_match_Pair (H : Nat → Entry) (v : c_slices_IndexFunc_match_Pair_match_Pair.inp.V) (r : (p : Pat) × p.V) (h : (c_slices_IndexFunc_match_Pair_match_Pair.body v).Sel H r) : fnVc (cx_slices_IndexFunc_match_Pair_match_Pair) an_slices_IndexFunc_match_Pair_match_Pair 1 Try.f87 c_slices_IndexFunc_match_Pair_match_Pair.inp [O_slices_IndexFunc_match_Pair_match_Pair] v (fun r' => r' = r) := by
  obtain ⟨l, at_, ⟨⟩⟩ := v
  obtain ⟨h, rfl⟩ := h
  exact Eq.mpr (eq_slices_IndexFunc_match_Pair_match_Pair l at_ _) (slices_IndexFunc_match_Pair_match_Pair.ok _ l at_ h rfl)
theorem ctr_slices_IndexFunc_match_Pair_match_Pair : CtrOk Try.prog 87 c_slices_IndexFunc_match_Pair_match_Pair := ⟨⟨_, Try.func87, by kernel_rfl, by kernel_rfl⟩, fun H v r h => mk_ok _ (fs_slices_IndexFunc_match_Pair_match_Pair) (an := an_slices_IndexFunc_match_Pair_match_Pair) (outs := [O_slices_IndexFunc_match_Pair_match_Pair]) Try.func87 (by decide) (vc_slices_IndexFunc_match_Pair_match_Pair H v r h)⟩
abbrev I_blend_fellow : Pat := { slots := [(0, .ce (.v (.sl (.pair (.int .i64) (.pair (.int .i64) .bool))))), (1, .ce (.v (.int .i64)))], ents := [] }
abbrev O_blend_fellow : Pat := { slots := [(0, .ce (.v (.int .i64)))], ents := [] }
def c_blend_fellow : Ctr := { k0 := 0, inp := I_blend_fellow, body := fun v => .need (Sp.fellow.pre v.1 v.2.1) (.ret ⟨O_blend_fellow, ((Sp.fellow v.1 v.2.1), ())⟩) }
def an_blend_fellow : Ann := []
def cx_blend_fellow : Cx := mkCx [(87, [c_slices_IndexFunc_match_Pair_match_Pair])]
theorem eq_blend_fellow (l : (List (Int × (Int × Bool)))) (at_ : Int) (R : ((p : Pat) × p.V) → Prop) : fnVc (cx_blend_fellow) an_blend_fellow 0 Try.f71 I_blend_fellow [O_blend_fellow] (l, at_, ()) R = blend_fellow.vc (fun y0 => R ⟨O_blend_fellow, (y0, ())⟩) l at_ := by kernel_rfl
theorem fs_blend_fellow : CtrsOk Try.prog [(87, [c_slices_IndexFunc_match_Pair_match_Pair])] := ⟨ctr1 ctr_slices_IndexFunc_match_Pair_match_Pair, trivial⟩
theorem vc_blend_fellow (H : Nat → Entry) (v : c_blend_fellow.inp.V) (r : (p : Pat) × p.V) (h : (c_blend_fellow.body v).Sel H r) : fnVc (cx_blend_fellow) an_blend_fellow 0 Try.f71 c_blend_fellow.inp [O_blend_fellow] v (fun r' => r' = r) := by
  obtain ⟨l, at_, ⟨⟩⟩ := v
  obtain ⟨h, rfl⟩ := h
  exact Eq.mpr (eq_blend_fellow l at_ _) (blend_fellow.ok _ l at_ h rfl)
theorem ctr_blend_fellow : CtrOk Try.prog 71 c_blend_fellow := ⟨⟨_, Try.func71, by kernel_rfl, by kernel_rfl⟩, fun H v r h => mk_ok _ (fs_blend_fellow) (an := an_blend_fellow) (outs := [O_blend_fellow]) Try.func71 (by decide) (vc_blend_fellow H v r h)⟩
abbrev I_blend_parts_string_1 : Pat := { slots := [(0, .ce (.v (.int .i64))), (1, .ce (.v (.int .i64))), (2, .ce (.v (.int .i64))), (3, .ce (.ptr 0 0)), (4, .ce (.ptr 1 0)), (5, .ce (.ptr 2 0))], ents := [.box 54 [.v (.int .i64), .v (.int .i64), .v (.int .i64), .v (.int .i64), .v (.int .i64), .v (.int .i64), .v (.int .i64)], .box 89 [.v (.sl .str), .v (.sl .str), .v (.sl .str), .fn 50 [] []], .box 44 [.os 3], .row 54 (.pair (.int .i64) (.pair (.pair (.int .i64) (.int .i64)) (.pair (.pair (.int .i64) (.int .i64)) (.pair (.int .i64) (.int .i64)))))] }
abbrev O_blend_parts_string_1 : Pat := { slots := [], ents := [.box 54 [.v (.int .i64), .v (.int .i64), .v (.int .i64), .v (.int .i64), .v (.int .i64), .v (.int .i64), .v (.int .i64)], .box 89 [.v (.sl .str), .v (.sl .str), .v (.sl .str), .fn 50 [] []], .box 44 [.os 3], .row 54 (.pair (.int .i64) (.pair (.pair (.int .i64) (.int .i64)) (.pair (.pair (.int .i64) (.int .i64)) (.pair (.int .i64) (.int .i64)))))] }
def c_blend_parts_string_1 : Ctr := { k0 := 3, inp := I_blend_parts_string_1, body := fun v => .need (Sp.upTo.pre v.1 v.2.1 v.2.2.1 v.2.2.2.2.1 v.2.2.2.2.2.2.1 v.2.2.2.2.2.2.2.2.1 v.2.2.2.2.2.2.2.2.2.2.1 v.2.2.2.2.2.2.2.2.2.2.2.1 v.2.2.2.2.2.2.2.2.2.2.2.2.1 v.2.2.2.2.2.2.2.2.2.2.2.2.2.1) (.ret ⟨O_blend_parts_string_1, (v.2.2.2.1, v.2.2.2.2.1, v.2.2.2.2.2.1, v.2.2.2.2.2.2.1, v.2.2.2.2.2.2.2.1, v.2.2.2.2.2.2.2.2.1, v.2.2.2.2.2.2.2.2.2.1, v.2.2.2.2.2.2.2.2.2.2.1, v.2.2.2.2.2.2.2.2.2.2.2.1, v.2.2.2.2.2.2.2.2.2.2.2.2.1, Sp.upTo v.1 v.2.1 v.2.2.1 v.2.2.2.2.1 v.2.2.2.2.2.2.1 v.2.2.2.2.2.2.2.2.1 v.2.2.2.2.2.2.2.2.2.2.1 v.2.2.2.2.2.2.2.2.2.2.2.1 v.2.2.2.2.2.2.2.2.2.2.2.2.1 v.2.2.2.2.2.2.2.2.2.2.2.2.2.1, ())⟩) }
def an_blend_parts_string_1 : Ann := []
def cx_blend_parts_string_1 : Cx := mkCx [(70, [c_blend_kind_string])]
theorem eq_blend_parts_string_1 (x : Int) (y : Int) (z : Int) (f0 : Int) (f1 : Int) (f2 : Int) (f3 : Int) (f4 : Int) (f5 : Int) (f6 : Int) (o : (List Str)) (a : (List Str)) (b : (List Str)) (out : (List (Int × ((Int × Int) × ((Int × Int) × (Int × Int)))))) (R : ((p : Pat) × p.V) → Prop) : fnVc (cx_blend_parts_string_1) an_blend_parts_string_1 3 Try.f69 I_blend_parts_string_1 [O_blend_parts_string_1] (x, y, z, f0, f1, f2, f3, f4, f5, f6, o, a, b, out, ()) R = blend_parts_string_1.vc (fun y0 y1 y2 y3 y4 y5 y6 y7 y8 y9 y10 => R ⟨O_blend_parts_string_1, (y0, y1, y2, y3, y4, y5, y6, y7, y8, y9, y10, ())⟩) x y z f0 f1 f2 f3 f4 f5 f6 o a b out := by kernel_rfl
theorem fs_blend_parts_string_1 : CtrsOk Try.prog [(70, [c_blend_kind_string])] := ⟨ctr1 ctr_blend_kind_string, trivial⟩
theorem vc_blend_parts_string_1 (H : Nat → Entry) (v : c_blend_parts_string_1.inp.V) (r : (p : Pat) × p.V) (h : (c_blend_parts_string_1.body v).Sel H r) : fnVc (cx_blend_parts_string_1) an_blend_parts_string_1 3 Try.f69 c_blend_parts_string_1.inp [O_blend_parts_string_1] v (fun r' => r' = r) := by
  obtain ⟨x, y, z, f0, f1, f2, f3, f4, f5, f6, o, a, b, out, ⟨⟩⟩ := v
  obtain ⟨h, rfl⟩ := h
  exact Eq.mpr (eq_blend_parts_string_1 x y z f0 f1 f2 f3 f4 f5 f6 o a b out _) (blend_parts_string_1.ok _ x y z f0 f1 f2 f3 f4 f5 f6 o a b out h rfl)
theorem ctr_blend_parts_string_1 : CtrOk Try.prog 69 c_blend_parts_string_1 := ⟨⟨_, Try.func69, by kernel_rfl, by kernel_rfl⟩, fun H v r h => mk_ok _ (fs_blend_parts_string_1) (an := an_blend_parts_string_1) (outs := [O_blend_parts_string_1]) Try.func69 (by decide) (vc_blend_parts_string_1 H v r h)⟩
abbrev I_blend_parts_string : Pat := { slots := [(0, .sc [.v (.sl .str), .v (.sl .str), .v (.sl .str), .fn 50 [] []]), (1, .ce (.v (.sl (.pair (.int .i64) (.pair (.int .i64) .bool))))), (2, .ce (.v (.sl (.pair (.int .i64) (.pair (.int .i64) .bool)))))], ents := [] }
abbrev O_blend_parts_string : Pat := { slots := [(0, .ce (.v (.sl (.pair (.int .i64) (.pair (.pair (.int .i64) (.int .i64)) (.pair (.pair (.int .i64) (.int .i64)) (.pair (.int .i64) (.int .i64))))))))], ents := [] }
def c_blend_parts_string : Ctr := { k0 := 0, inp := I_blend_parts_string, body := fun v => .need (Sp.parts.pre v.1 v.2.1 v.2.2.1 v.2.2.2.1 v.2.2.2.2.1) (.ret ⟨O_blend_parts_string, (Sp.parts v.1 v.2.1 v.2.2.1 v.2.2.2.1 v.2.2.2.2.1, ())⟩) }
def an_blend_parts_string : Ann := [(5, { slots := [(1, .ce (.v (.sl (.pair (.int .i64) (.pair (.int .i64) .bool))))), (2, .ce (.v (.sl (.pair (.int .i64) (.pair (.int .i64) .bool))))), (3, .ce (.ptr 0 0)), (7, .ce (.ptr 1 0)), (8, .ce (.ptr 3 0)), (9, .ce (.fn 69 [] [3, 0, 1])), (16, .ce (.v (.int .i64))), (17, .ce (.v (.int .i64)))], ents := [.box 89 [.v (.sl .str), .v (.sl .str), .v (.sl .str), .fn 50 [] []], .box 44 [.os 2], .row 54 (.pair (.int .i64) (.pair (.pair (.int .i64) (.int .i64)) (.pair (.pair (.int .i64) (.int .i64)) (.pair (.int .i64) (.int .i64))))), .box 54 [.v (.int .i64), .v (.int .i64), .v (.int .i64), .v (.int .i64), .v (.int .i64), .v (.int .i64), .v (.int .i64)]] })]
def cx_blend_parts_string : Cx := mkCx [(71, [c_blend_fellow]), (69, [c_blend_parts_string_1])]
theorem eq_blend_parts_string (o : (List Str)) (a : (List Str)) (b : (List Str)) (ours : (List (Int × (Int × Bool)))) (theirs : (List (Int × (Int × Bool)))) (R : ((p : Pat) × p.V) → Prop) : fnVc (cx_blend_parts_string) an_blend_parts_string 0 Try.f49 I_blend_parts_string [O_blend_parts_string] (o, a, b, ours, theirs, ()) R = blend_parts_string.vc (fun y0 => R ⟨O_blend_parts_string, (y0, ())⟩) o a b ours theirs := by kernel_rfl
theorem fs_blend_parts_string : CtrsOk Try.prog [(71, [c_blend_fellow]), (69, [c_blend_parts_string_1])] := ⟨ctr1 ctr_blend_fellow, ctr1 ctr_blend_parts_string_1, trivial⟩
theorem vc_blend_parts_string (H : Nat → Entry) (v : c_blend_parts_string.inp.V) (r : (p : Pat) × p.V) (h : (c_blend_parts_string.body v).Sel H r) : fnVc (cx_blend_parts_string) an_blend_parts_string 0 Try.f49 c_blend_parts_string.inp [O_blend_parts_string] v (fun r' => r' = r) := by
  obtain ⟨o, a, b, ours, theirs, ⟨⟩⟩ := v
  obtain ⟨h, rfl⟩ := h
  exact Eq.mpr (eq_blend_parts_string o a b ours theirs _) (blend_parts_string.ok _ o a b ours theirs h rfl)
theorem ctr_blend_parts_string : CtrOk Try.prog 49 c_blend_parts_string := ⟨⟨_, Try.func49, by kernel_rfl, by kernel_rfl⟩, fun H v r h => mk_ok _ (fs_blend_parts_string) (an := an_blend_parts_string) (outs := [O_blend_parts_string]) Try.func49 (by decide) (vc_blend_parts_string H v r h)⟩
abbrev I_blend_Texts : Pat := { slots := [(0, .ce (.v (.sl .str))), (1, .ce (.v (.sl .str))), (2, .ce (.v (.sl .str)))], ents := [] }
abbrev O_blend_Texts : Pat := { slots := [(0, .ce (.v (.sl (.pair (.int .i64) (.pair (.pair (.int .i64) (.int .i64)) (.pair (.pair (.int .i64) (.int .i64)) (.pair (.int .i64) (.int .i64))))))))], ents := [] }
def c_blend_Texts : Ctr := { k0 := 0, inp := I_blend_Texts, body := fun v => .need (Sp.blendT.pre v.1 v.2.1 v.2.2.1) (.ret ⟨O_blend_Texts, ((Sp.blendT v.1 v.2.1 v.2.2.1), ())⟩) }
def an_blend_Texts : Ann := []
def cx_blend_Texts : Cx := mkCx [(50, [c_slices_Equal_string_string]), (15, [c_match_Line]), (49, [c_blend_parts_string])]
theorem eq_blend_Texts (o : (List Str)) (a : (List Str)) (b : (List Str)) (R : ((p : Pat) × p.V) → Prop) : fnVc (cx_blend_Texts) an_blend_Texts 0 Try.f24 I_blend_Texts [O_blend_Texts] (o, a, b, ()) R = blend_Texts.vc (fun y0 => R ⟨O_blend_Texts, (y0, ())⟩) o a b := by kernel_rfl
theorem fs_blend_Texts : CtrsOk Try.prog [(50, [c_slices_Equal_string_string]), (15, [c_match_Line]), (49, [c_blend_parts_string])] := ⟨ctr1 ctr_slices_Equal_string_string, ctr1 ctr_match_Line, ctr1 ctr_blend_parts_string, trivial⟩
theorem vc_blend_Texts (H : Nat → Entry) (v : c_blend_Texts.inp.V) (r : (p : Pat) × p.V) (h : (c_blend_Texts.body v).Sel H r) : fnVc (cx_blend_Texts) an_blend_Texts 0 Try.f24 c_blend_Texts.inp [O_blend_Texts] v (fun r' => r' = r) := by
  obtain ⟨o, a, b, ⟨⟩⟩ := v
  obtain ⟨h, rfl⟩ := h
  exact Eq.mpr (eq_blend_Texts o a b _) (blend_Texts.ok _ o a b h rfl)
theorem ctr_blend_Texts : CtrOk Try.prog 24 c_blend_Texts := ⟨⟨_, Try.func24, by kernel_rfl, by kernel_rfl⟩, fun H v r h => mk_ok _ (fs_blend_Texts) (an := an_blend_Texts) (outs := [O_blend_Texts]) Try.func24 (by decide) (vc_blend_Texts H v r h)⟩
abbrev I_blend_Join : Pat := { slots := [(0, .ce (.v (.sl .str))), (1, .ce (.v (.sl .str))), (2, .ce (.v (.sl .str)))], ents := [] }
abbrev O_blend_Join : Pat := { slots := [(0, .ce (.v (.sl .str))), (1, .ce (.v (.int .i64)))], ents := [] }
def c_blend_Join : Ctr := { k0 := 0, inp := I_blend_Join, body := fun v => .need (Sp.joinP.pre v.1 v.2.1 v.2.2.1) (.ret ⟨O_blend_Join, ((Sp.joinP v.1 v.2.1 v.2.2.1).1, (Sp.joinP v.1 v.2.1 v.2.2.1).2, ())⟩) }
def an_blend_Join : Ann := [(4, { slots := [(0, .ce (.v (.sl .str))), (1, .ce (.v (.sl .str))), (2, .ce (.v (.sl .str))), (8, .ce (.os 0)), (9, .ce (.v (.int .i64))), (15, .ce (.v (.sl (.pair (.int .i64) (.pair (.pair (.int .i64) (.int .i64)) (.pair (.pair (.int .i64) (.int .i64)) (.pair (.int .i64) (.int .i64)))))))), (16, .ce (.v (.int .i64))), (17, .ce (.v (.int .i64)))], ents := [.row 9 .str] })]
def cx_blend_Join : Cx := mkCx [(24, [c_blend_Texts]), (48, [c_blend_of_string])]
theorem eq_blend_Join (o : (List Str)) (a : (List Str)) (b : (List Str)) (R : ((p : Pat) × p.V) → Prop) : fnVc (cx_blend_Join) an_blend_Join 0 Try.f22 I_blend_Join [O_blend_Join] (o, a, b, ()) R = blend_Join.vc (fun y0 y1 => R ⟨O_blend_Join, (y0, y1, ())⟩) o a b := by kernel_rfl
theorem fs_blend_Join : CtrsOk Try.prog [(24, [c_blend_Texts]), (48, [c_blend_of_string])] := ⟨ctr1 ctr_blend_Texts, ctr1 ctr_blend_of_string, trivial⟩
theorem vc_blend_Join (H : Nat → Entry) (v : c_blend_Join.inp.V) (r : (p : Pat) × p.V) (h : (c_blend_Join.body v).Sel H r) : fnVc (cx_blend_Join) an_blend_Join 0 Try.f22 c_blend_Join.inp [O_blend_Join] v (fun r' => r' = r) := by
  obtain ⟨o, a, b, ⟨⟩⟩ := v
  obtain ⟨h, rfl⟩ := h
  exact Eq.mpr (eq_blend_Join o a b _) (blend_Join.ok _ o a b h rfl)
theorem ctr_blend_Join : CtrOk Try.prog 22 c_blend_Join := ⟨⟨_, Try.func22, by kernel_rfl, by kernel_rfl⟩, fun H v r h => mk_ok _ (fs_blend_Join) (an := an_blend_Join) (outs := [O_blend_Join]) Try.func22 (by decide) (vc_blend_Join H v r h)⟩
abbrev I_blend_Clean_1 : Pat := { slots := [(0, .ag (.pair (.int .i64) (.pair (.pair (.int .i64) (.int .i64)) (.pair (.pair (.int .i64) (.int .i64)) (.pair (.int .i64) (.int .i64))))))], ents := [] }
abbrev O_blend_Clean_1 : Pat := { slots := [(0, .ce (.v .bool))], ents := [] }
def c_blend_Clean_1 : Ctr := { k0 := 0, inp := I_blend_Clean_1, body := fun v => .ret ⟨O_blend_Clean_1, ((Sp.isClash v.1), ())⟩ }
def an_blend_Clean_1 : Ann := []
def cx_blend_Clean_1 : Cx := mkCx []
theorem eq_blend_Clean_1 (p : (Int × ((Int × Int) × ((Int × Int) × (Int × Int))))) (R : ((p : Pat) × p.V) → Prop) : fnVc (cx_blend_Clean_1) an_blend_Clean_1 0 Try.f55 I_blend_Clean_1 [O_blend_Clean_1] (p, ()) R = blend_Clean_1.vc (fun y0 => R ⟨O_blend_Clean_1, (y0, ())⟩) p := by kernel_rfl
theorem fs_blend_Clean_1 : CtrsOk Try.prog [] := trivial
theorem vc_blend_Clean_1 (H : Nat → Entry) (v : c_blend_Clean_1.inp.V) (r : (p : Pat) × p.V) (h : (c_blend_Clean_1.body v).Sel H r) : fnVc (cx_blend_Clean_1) an_blend_Clean_1 0 Try.f55 c_blend_Clean_1.inp [O_blend_Clean_1] v (fun r' => r' = r) := by
  obtain ⟨p, ⟨⟩⟩ := v
  obtain rfl := h
  exact Eq.mpr (eq_blend_Clean_1 p _) (blend_Clean_1.ok _ p  rfl)
theorem ctr_blend_Clean_1 : CtrOk Try.prog 55 c_blend_Clean_1 := ⟨⟨_, Try.func55, by kernel_rfl, by kernel_rfl⟩, fun H v r h => mk_ok _ (fs_blend_Clean_1) (an := an_blend_Clean_1) (outs := [O_blend_Clean_1]) Try.func55 (by decide) (vc_blend_Clean_1 H v r h)⟩
abbrev I_slices_IndexFunc_blend_Part_blend_Part : Pat := { slots := [(0, .ce (.v (.sl (.pair (.int .i64) (.pair (.pair (.int .i64) (.int .i64)) (.pair (.pair (.int .i64) (.int .i64)) (.pair (.int .i64) (.int .i64)))))))), (1, .ce (.fn 55 [] []))], ents := [] }
abbrev O_slices_IndexFunc_blend_Part_blend_Part : Pat := { slots := [(0, .ce (.v (.int .i64)))], ents := [] }
def c_slices_IndexFunc_blend_Part_blend_Part : Ctr := { k0 := 0, inp := I_slices_IndexFunc_blend_Part_blend_Part, body := fun v => .need (Sp.idxClash.pre v.1) (.ret ⟨O_slices_IndexFunc_blend_Part_blend_Part, (Sp.idxClash v.1, ())⟩) }
def an_slices_IndexFunc_blend_Part_blend_Part : Ann := [(2, { slots := [(0, .ce (.v (.sl (.pair (.int .i64) (.pair (.pair (.int .i64) (.int .i64)) (.pair (.pair (.int .i64) (.int .i64)) (.pair (.int .i64) (.int .i64)))))))), (1, .ce (.fn 55 [] [])), (7, .ce (.v (.int .i64))), (8, .ce (.v (.int .i64)))], ents := [] })]
def cx_slices_IndexFunc_blend_Part_blend_Part : Cx := mkCx [(55, [c_blend_Clean_1])]
theorem eq_slices_IndexFunc_blend_Part_blend_Part (l : (List (Int × ((Int × Int) × ((Int × Int) × (Int × Int)))))) (R : ((p : Pat) × p.V) → Prop) : fnVc (cx_slices_IndexFunc_blend_Part_blend_Part) an_slices_IndexFunc_blend_Part_blend_Part 0 Try.f73 I_slices_IndexFunc_blend_Part_blend_Part [O_slices_IndexFunc_blend_Part_blend_Part] (l, ()) R = slices_IndexFunc_blend_Part_blend_Part.vc (fun y0 => R ⟨O_slices_IndexFunc_blend_Part_blend_Part, (y0, ())⟩) l := by kernel_rfl
theorem fs_slices_IndexFunc_blend_Part_blend_Part : CtrsOk Try.prog [(55, [c_blend_Clean_1])] := ⟨ctr1 ctr_blend_Clean_1, trivial⟩
theorem vc_slices_IndexFunc_blend_Part_blend_Part (H : Nat → Entry) (v : c_slices_IndexFunc_blend_Part_blend_Part.inp.V) (r : (p : Pat) × p.V) (h : (c_slices_IndexFunc_blend_Part_blend_Part.body v).Sel H r) : fnVc (cx_slices_IndexFunc_blend_Part_blend_Part) an_slices_IndexFunc_blend_Part_blend_Part 0 Try.f73 c_slices_IndexFunc_blend_Part_blend_Part.inp [O_slices_IndexFunc_blend_Part_blend_Part] v (fun r' => r' = r) := by
  obtain ⟨l, ⟨⟩⟩ := v
  obtain ⟨h, rfl⟩ := h
  exact Eq.mpr (eq_slices_IndexFunc_blend_Part_blend_Part l _) (slices_IndexFunc_blend_Part_blend_Part.ok _ l h rfl)
theorem ctr_slices_IndexFunc_blend_Part_blend_Part : CtrOk Try.prog 73 c_slices_IndexFunc_blend_Part_blend_Part := ⟨⟨_, Try.func73, by kernel_rfl, by kernel_rfl⟩, fun H v r h => mk_ok _ (fs_slices_IndexFunc_blend_Part_blend_Part) (an := an_slices_IndexFunc_blend_Part_blend_Part) (outs := [O_slices_IndexFunc_blend_Part_blend_Part]) Try.func73 (by decide) (vc_slices_IndexFunc_blend_Part_blend_Part H v r h)⟩
abbrev I_slices_ContainsFunc_blend_Part_blend_Part : Pat := { slots := [(0, .ce (.v (.sl (.pair (.int .i64) (.pair (.pair (.int .i64) (.int .i64)) (.pair (.pair (.int .i64) (.int .i64)) (.pair (.int .i64) (.int .i64)))))))), (1, .ce (.fn 55 [] []))], ents := [] }
abbrev O_slices_ContainsFunc_blend_Part_blend_Part : Pat := { slots := [(0, .ce (.v .bool))], ents := [] }
def c_slices_ContainsFunc_blend_Part_blend_Part : Ctr := { k0 := 0, inp := I_slices_ContainsFunc_blend_Part_blend_Part, body := fun v => .need (Sp.idxClash.pre v.1) (.ret ⟨O_slices_ContainsFunc_blend_Part_blend_Part, (Sp.hasClash v.1, ())⟩) }
def an_slices_ContainsFunc_blend_Part_blend_Part : Ann := []
def cx_slices_ContainsFunc_blend_Part_blend_Part : Cx := mkCx [(73, [c_slices_IndexFunc_blend_Part_blend_Part])]
theorem eq_slices_ContainsFunc_blend_Part_blend_Part (l : (List (Int × ((Int × Int) × ((Int × Int) × (Int × Int)))))) (R : ((p : Pat) × p.V) → Prop) : fnVc (cx_slices_ContainsFunc_blend_Part_blend_Part) an_slices_ContainsFunc_blend_Part_blend_Part 0 Try.f54 I_slices_ContainsFunc_blend_Part_blend_Part [O_slices_ContainsFunc_blend_Part_blend_Part] (l, ()) R = slices_ContainsFunc_blend_Part_blend_Part.vc (fun y0 => R ⟨O_slices_ContainsFunc_blend_Part_blend_Part, (y0, ())⟩) l := by kernel_rfl
theorem fs_slices_ContainsFunc_blend_Part_blend_Part : CtrsOk Try.prog [(73, [c_slices_IndexFunc_blend_Part_blend_Part])] := ⟨ctr1 ctr_slices_IndexFunc_blend_Part_blend_Part, trivial⟩
theorem vc_slices_ContainsFunc_blend_Part_blend_Part (H : Nat → Entry) (v : c_slices_ContainsFunc_blend_Part_blend_Part.inp.V) (r : (p : Pat) × p.V) (h : (c_slices_ContainsFunc_blend_Part_blend_Part.body v).Sel H r) : fnVc (cx_slices_ContainsFunc_blend_Part_blend_Part) an_slices_ContainsFunc_blend_Part_blend_Part 0 Try.f54 c_slices_ContainsFunc_blend_Part_blend_Part.inp [O_slices_ContainsFunc_blend_Part_blend_Part] v (fun r' => r' = r) := by
  obtain ⟨l, ⟨⟩⟩ := v
  obtain ⟨h, rfl⟩ := h
  exact Eq.mpr (eq_slices_ContainsFunc_blend_Part_blend_Part l _) (slices_ContainsFunc_blend_Part_blend_Part.ok _ l h rfl)
theorem ctr_slices_ContainsFunc_blend_Part_blend_Part : CtrOk Try.prog 54 c_slices_ContainsFunc_blend_Part_blend_Part := ⟨⟨_, Try.func54, by kernel_rfl, by kernel_rfl⟩, fun H v r h => mk_ok _ (fs_slices_ContainsFunc_blend_Part_blend_Part) (an := an_slices_ContainsFunc_blend_Part_blend_Part) (outs := [O_slices_ContainsFunc_blend_Part_blend_Part]) Try.func54 (by decide) (vc_slices_ContainsFunc_blend_Part_blend_Part H v r h)⟩
abbrev I_blend_Clean : Pat := { slots := [(0, .ce (.v (.sl (.pair (.int .i64) (.pair (.pair (.int .i64) (.int .i64)) (.pair (.pair (.int .i64) (.int .i64)) (.pair (.int .i64) (.int .i64))))))))], ents := [] }
abbrev O_blend_Clean : Pat := { slots := [(0, .ce (.v .bool))], ents := [] }
def c_blend_Clean : Ctr := { k0 := 0, inp := I_blend_Clean, body := fun v => .need (Sp.cleanP.pre v.1) (.ret ⟨O_blend_Clean, ((Sp.cleanP v.1), ())⟩) }
def an_blend_Clean : Ann := []
def cx_blend_Clean : Cx := mkCx [(54, [c_slices_ContainsFunc_blend_Part_blend_Part]), (55, [c_blend_Clean_1])]
theorem eq_blend_Clean (l : (List (Int × ((Int × Int) × ((Int × Int) × (Int × Int)))))) (R : ((p : Pat) × p.V) → Prop) : fnVc (cx_blend_Clean) an_blend_Clean 0 Try.f28 I_blend_Clean [O_blend_Clean] (l, ()) R = blend_Clean.vc (fun y0 => R ⟨O_blend_Clean, (y0, ())⟩) l := by kernel_rfl
theorem fs_blend_Clean : CtrsOk Try.prog [(54, [c_slices_ContainsFunc_blend_Part_blend_Part]), (55, [c_blend_Clean_1])] := ⟨ctr1 ctr_slices_ContainsFunc_blend_Part_blend_Part, ctr1 ctr_blend_Clean_1, trivial⟩
theorem vc_blend_Clean (H : Nat → Entry) (v : c_blend_Clean.inp.V) (r : (p : Pat) × p.V) (h : (c_blend_Clean.body v).Sel H r) : fnVc (cx_blend_Clean) an_blend_Clean 0 Try.f28 c_blend_Clean.inp [O_blend_Clean] v (fun r' => r' = r) := by
  obtain ⟨l, ⟨⟩⟩ := v
  obtain ⟨h, rfl⟩ := h
  exact Eq.mpr (eq_blend_Clean l _) (blend_Clean.ok _ l h rfl)
theorem ctr_blend_Clean : CtrOk Try.prog 28 c_blend_Clean := ⟨⟨_, Try.func28, by kernel_rfl, by kernel_rfl⟩, fun H v r h => mk_ok _ (fs_blend_Clean) (an := an_blend_Clean) (outs := [O_blend_Clean]) Try.func28 (by decide) (vc_blend_Clean H v r h)⟩
abbrev I_rectoref25_fellow : Pat := { slots := [(0, .ce (.v (.sl (.pair (.int .i64) (.pair (.int .i64) .bool))))), (1, .ce (.v (.int .i64)))], ents := [] }
abbrev O_rectoref25_fellow : Pat := { slots := [(0, .ce (.v (.int .i64)))], ents := [] }
def c_rectoref25_fellow : Ctr := { k0 := 0, inp := I_rectoref25_fellow, body := fun v => .need (Sp.fellow.pre v.1 v.2.1) (.ret ⟨O_rectoref25_fellow, ((Sp.fellow v.1 v.2.1), ())⟩) }
def an_rectoref25_fellow : Ann := [(2, { slots := [(1, .ce (.v (.int .i64))), (7, .ce (.v (.sl (.pair (.int .i64) (.pair (.int .i64) .bool))))), (8, .ce (.v (.int .i64))), (9, .ce (.v (.int .i64)))], ents := [] })]
def cx_rectoref25_fellow : Cx := mkCx []
theorem eq_rectoref25_fellow (l : (List (Int × (Int × Bool)))) (at_ : Int) (R : ((p : Pat) × p.V) → Prop) : fnVc (cx_rectoref25_fellow) an_rectoref25_fellow 0 Try.f72 I_rectoref25_fellow [O_rectoref25_fellow] (l, at_, ()) R = rectoref25_fellow.vc (fun y0 => R ⟨O_rectoref25_fellow, (y0, ())⟩) l at_ := by kernel_rfl
theorem fs_rectoref25_fellow : CtrsOk Try.prog [] := trivial
theorem vc_rectoref25_fellow (H : Nat → Entry) (v : c_rectoref25_fellow.inp.V) (r : (p : Pat) × p.V) (h : (c_rectoref25_fellow.body v).Sel H r) : fnVc (cx_rectoref25_fellow) an_rectoref25_fellow 0 Try.f72 c_rectoref25_fellow.inp [O_rectoref25_fellow] v (fun r' => r' = r) := by
  obtain ⟨l, at_, ⟨⟩⟩ := v
  obtain ⟨h, rfl⟩ := h
  exact Eq.mpr (eq_rectoref25_fellow l at_ _) (rectoref25_fellow.ok _ l at_ h rfl)
theorem ctr_rectoref25_fellow : CtrOk Try.prog 72 c_rectoref25_fellow := ⟨⟨_, Try.func72, by kernel_rfl, by kernel_rfl⟩, fun H v r h => mk_ok _ (fs_rectoref25_fellow) (an := an_rectoref25_fellow) (outs := [O_rectoref25_fellow]) Try.func72 (by decide) (vc_rectoref25_fellow H v r h)⟩
abbrev I_rectoref25_Triples : Pat := { slots := [(0, .ce (.v (.sl (.pair (.int .i64) (.pair (.int .i64) .bool))))), (1, .ce (.v (.sl (.pair (.int .i64) (.pair (.int .i64) .bool))))), (2, .ag (.arr 3 (.int .i64)))], ents := [] }
abbrev O_rectoref25_Triples : Pat := { slots := [(0, .ce (.v (.sl (.arr 3 (.int .i64)))))], ents := [] }
def c_rectoref25_Triples : Ctr := { k0 := 0, inp := I_rectoref25_Triples, body := fun v => .need (Sp.triplesR.pre v.1 v.2.1 v.2.2.1) (.ret ⟨O_rectoref25_Triples, ((Sp.triplesR v.1 v.2.1 v.2.2.1), ())⟩) }
def an_rectoref25_Triples : Ann := [(3, { slots := [(0, .ce (.v (.sl (.pair (.int .i64) (.pair (.int .i64) .bool))))), (1, .ce (.v (.sl (.pair (.int .i64) (.pair (.int .i64) .bool))))), (5, .ce (.ptr 0 0)), (7, .ce (.os 1)), (8, .ce (.v (.int .i64)))], ents := [.abox 84 (.int .i64), .row 84 (.arr 3 (.int .i64))] })]
def cx_rectoref25_Triples : Cx := mkCx [(72, [c_rectoref25_fellow])]
theorem eq_rectoref25_Triples (ours : (List (Int × (Int × Bool)))) (theirs : (List (Int × (Int × Bool)))) (ends : (List Int)) (R : ((p : Pat) × p.V) → Prop) : fnVc (cx_rectoref25_Triples) an_rectoref25_Triples 0 Try.f51 I_rectoref25_Triples [O_rectoref25_Triples] (ours, theirs, ends, ()) R = rectoref25_Triples.vc (fun y0 => R ⟨O_rectoref25_Triples, (y0, ())⟩) ours theirs ends := by kernel_rfl
theorem fs_rectoref25_Triples : CtrsOk Try.prog [(72, [c_rectoref25_fellow])] := ⟨ctr1 ctr_rectoref25_fellow, trivial⟩
theorem vc_rectoref25_Triples (H : Nat → Entry) (v : c_rectoref25_Triples.inp.V) (r : (p : Pat) × p.V) (h : (c_rectoref25_Triples.body v).Sel H r) : fnVc (cx_rectoref25_Triples) an_rectoref25_Triples 0 Try.f51 c_rectoref25_Triples.inp [O_rectoref25_Triples] v (fun r' => r' = r) := by
  obtain ⟨ours, theirs, ends, ⟨⟩⟩ := v
  obtain ⟨h, rfl⟩ := h
  exact Eq.mpr (eq_rectoref25_Triples ours theirs ends _) (rectoref25_Triples.ok _ ours theirs ends h rfl)
theorem ctr_rectoref25_Triples : CtrOk Try.prog 51 c_rectoref25_Triples := ⟨⟨_, Try.func51, by kernel_rfl, by kernel_rfl⟩, fun H v r h => mk_ok _ (fs_rectoref25_Triples) (an := an_rectoref25_Triples) (outs := [O_rectoref25_Triples]) Try.func51 (by decide) (vc_rectoref25_Triples H v r h)⟩
abbrev I_rectoref25_kind : Pat := { slots := [(0, .ce (.v .bool)), (1, .ce (.v .bool)), (2, .ce (.v .bool))], ents := [] }
abbrev O_rectoref25_kind : Pat := { slots := [(0, .ce (.v (.int .i64)))], ents := [] }
def c_rectoref25_kind : Ctr := { k0 := 0, inp := I_rectoref25_kind, body := fun v => .ret ⟨O_rectoref25_kind, ((Sp.kindR v.1 v.2.1 v.2.2.1), ())⟩ }
def an_rectoref25_kind : Ann := []
def cx_rectoref25_kind : Cx := mkCx []
theorem eq_rectoref25_kind (oa : Bool) (ob : Bool) (ab : Bool) (R : ((p : Pat) × p.V) → Prop) : fnVc (cx_rectoref25_kind) an_rectoref25_kind 0 Try.f52 I_rectoref25_kind [O_rectoref25_kind] (oa, ob, ab, ()) R = rectoref25_kind.vc (fun y0 => R ⟨O_rectoref25_kind, (y0, ())⟩) oa ob ab := by kernel_rfl
theorem fs_rectoref25_kind : CtrsOk Try.prog [] := trivial
theorem vc_rectoref25_kind (H : Nat → Entry) (v : c_rectoref25_kind.inp.V) (r : (p : Pat) × p.V) (h : (c_rectoref25_kind.body v).Sel H r) : fnVc (cx_rectoref25_kind) an_rectoref25_kind 0 Try.f52 c_rectoref25_kind.inp [O_rectoref25_kind] v (fun r' => r' = r) := by
  obtain ⟨oa, ob, ab, ⟨⟩⟩ := v
  obtain rfl := h
  exact Eq.mpr (eq_rectoref25_kind oa ob ab _) (rectoref25_kind.ok _ oa ob ab  rfl)
theorem ctr_rectoref25_kind : CtrOk Try.prog 52 c_rectoref25_kind := ⟨⟨_, Try.func52, by kernel_rfl, by kernel_rfl⟩, fun H v r h => mk_ok _ (fs_rectoref25_kind) (an := an_rectoref25_kind) (outs := [O_rectoref25_kind]) Try.func52 (by decide) (vc_rectoref25_kind H v r h)⟩
abbrev I_rectoref25_empty : Pat := { slots := [(0, .ag (.pair (.int .i64) (.pair (.arr 3 (.int .i64)) (.arr 3 (.int .i64)))))], ents := [] }
abbrev O_rectoref25_empty : Pat := { slots := [(0, .ce (.v .bool))], ents := [] }
def c_rectoref25_empty : Ctr := { k0 := 0, inp := I_rectoref25_empty, body := fun v => .ret ⟨O_rectoref25_empty, ((Sp.emptyR v.1), ())⟩ }
def an_rectoref25_empty : Ann := []
def cx_rectoref25_empty : Cx := mkCx []
theorem eq_rectoref25_empty (p : (Int × ((List Int) × (List Int)))) (R : ((p : Pat) × p.V) → Prop) : fnVc (cx_rectoref25_empty) an_rectoref25_empty 0 Try.f53 I_rectoref25_empty [O_rectoref25_empty] (p, ()) R = rectoref25_empty.vc (fun y0 => R ⟨O_rectoref25_empty, (y0, ())⟩) p := by kernel_rfl
theorem fs_rectoref25_empty : CtrsOk Try.prog [] := trivial
theorem vc_rectoref25_empty (H : Nat → Entry) (v : c_rectoref25_empty.inp.V) (r : (p : Pat) × p.V) (h : (c_rectoref25_empty.body v).Sel H r) : fnVc (cx_rectoref25_empty) an_rectoref25_empty 0 Try.f53 c_rectoref25_empty.inp [O_rectoref25_empty] v (fun r' => r' = r) := by
  obtain ⟨p, ⟨⟩⟩ := v
  obtain rfl := h
  exact Eq.mpr (eq_rectoref25_empty p _) (rectoref25_empty.ok _ p  rfl)
theorem ctr_rectoref25_empty : CtrOk Try.prog 53 c_rectoref25_empty := ⟨⟨_, Try.func53, by kernel_rfl, by kernel_rfl⟩, fun H v r h => mk_ok _ (fs_rectoref25_empty) (an := an_rectoref25_empty) (outs := [O_rectoref25_empty]) Try.func53 (by decide) (vc_rectoref25_empty H v r h)⟩
abbrev I_rectoplain_Texts : Pat := { slots := [(0, .ce (.v (.sl .str))), (1, .ce (.v (.sl .str)))], ents := [] }
abbrev O_rectoplain_Texts : Pat := { slots := [(0, .ce (.v .bool))], ents := [] }
def c_rectoplain_Texts : Ctr := { k0 := 0, inp := I_rectoplain_Texts, body := fun v => .need (Sp.eqL.pre v.1 v.2.1) (.ret ⟨O_rectoplain_Texts, ((Sp.eqL v.1 v.2.1), ())⟩) }
def an_rectoplain_Texts : Ann := [(2, { slots := [(0, .ce (.v (.sl .str))), (1, .ce (.v (.sl .str))), (7, .ce (.v (.int .i64))), (8, .ce (.v (.int .i64)))], ents := [] })]
def cx_rectoplain_Texts : Cx := mkCx []
theorem eq_rectoplain_Texts (a : (List Str)) (b : (List Str)) (R : ((p : Pat) × p.V) → Prop) : fnVc (cx_rectoplain_Texts) an_rectoplain_Texts 0 Try.f27 I_rectoplain_Texts [O_rectoplain_Texts] (a, b, ()) R = rectoplain_Texts.vc (fun y0 => R ⟨O_rectoplain_Texts, (y0, ())⟩) a b := by kernel_rfl
theorem fs_rectoplain_Texts : CtrsOk Try.prog [] := trivial
theorem vc_rectoplain_Texts (H : Nat → Entry) (v : c_rectoplain_Texts.inp.V) (r : (p : Pat) × p.V) (h : (c_rectoplain_Texts.body v).Sel H r) : fnVc (cx_rectoplain_Texts) an_rectoplain_Texts 0 Try.f27 c_rectoplain_Texts.inp [O_rectoplain_Texts] v (fun r' => r' = r) := by
  obtain ⟨a, b, ⟨⟩⟩ := v
  obtain ⟨h, rfl⟩ := h
  exact Eq.mpr (eq_rectoplain_Texts a b _) (rectoplain_Texts.ok _ a b h rfl)
theorem ctr_rectoplain_Texts : CtrOk Try.prog 27 c_rectoplain_Texts := ⟨⟨_, Try.func27, by kernel_rfl, by kernel_rfl⟩, fun H v r h => mk_ok _ (fs_rectoplain_Texts) (an := an_rectoplain_Texts) (outs := [O_rectoplain_Texts]) Try.func27 (by decide) (vc_rectoplain_Texts H v r h)⟩
abbrev I_rectolaw25_same : Pat := { slots := [(0, .ce (.v (.sl (.pair (.int .i64) (.pair (.pair (.int .i64) (.int .i64)) (.pair (.pair (.int .i64) (.int .i64)) (.pair (.int .i64) (.int .i64)))))))), (1, .ce (.v (.sl (.pair (.int .i64) (.pair (.arr 3 (.int .i64)) (.arr 3 (.int .i64)))))))], ents := [] }
abbrev O_rectolaw25_same : Pat := { slots := [(0, .ce (.v .bool))], ents := [] }
def c_rectolaw25_same : Ctr := { k0 := 0, inp := I_rectolaw25_same, body := fun v => .need (Sp.same25.pre v.1 v.2.1) (.ret ⟨O_rectolaw25_same, ((Sp.same25 v.1 v.2.1), ())⟩) }
def an_rectolaw25_same : Ann := [(2, { slots := [(0, .ce (.v (.sl (.pair (.int .i64) (.pair (.pair (.int .i64) (.int .i64)) (.pair (.pair (.int .i64) (.int .i64)) (.pair (.int .i64) (.int .i64)))))))), (1, .ce (.v (.sl (.pair (.int .i64) (.pair (.arr 3 (.int .i64)) (.arr 3 (.int .i64))))))), (7, .ce (.v (.sl (.pair (.int .i64) (.pair (.pair (.int .i64) (.int .i64)) (.pair (.pair (.int .i64) (.int .i64)) (.pair (.int .i64) (.int .i64)))))))), (8, .ce (.v (.int .i64))), (9, .ce (.v (.int .i64)))], ents := [] })]
def cx_rectolaw25_same : Cx := mkCx []
theorem eq_rectolaw25_same (a : (List (Int × ((Int × Int) × ((Int × Int) × (Int × Int)))))) (b : (List (Int × ((List Int) × (List Int))))) (R : ((p : Pat) × p.V) → Prop) : fnVc (cx_rectolaw25_same) an_rectolaw25_same 0 Try.f25 I_rectolaw25_same [O_rectolaw25_same] (a, b, ()) R = rectolaw25_same.vc (fun y0 => R ⟨O_rectolaw25_same, (y0, ())⟩) a b := by kernel_rfl
theorem fs_rectolaw25_same : CtrsOk Try.prog [] := trivial
theorem vc_rectolaw25_same (H : Nat → Entry) (v : c_rectolaw25_same.inp.V) (r : (p : Pat) × p.V) (h : (c_rectolaw25_same.body v).Sel H r) : fnVc (cx_rectolaw25_same) an_rectolaw25_same 0 Try.f25 c_rectolaw25_same.inp [O_rectolaw25_same] v (fun r' => r' = r) := by
  obtain ⟨a, b, ⟨⟩⟩ := v
  obtain ⟨h, rfl⟩ := h
  exact Eq.mpr (eq_rectolaw25_same a b _) (rectolaw25_same.ok _ a b h rfl)
theorem ctr_rectolaw25_same : CtrOk Try.prog 25 c_rectolaw25_same := ⟨⟨_, Try.func25, by kernel_rfl, by kernel_rfl⟩, fun H v r h => mk_ok _ (fs_rectolaw25_same) (an := an_rectolaw25_same) (outs := [O_rectolaw25_same]) Try.func25 (by decide) (vc_rectolaw25_same H v r h)⟩
abbrev I_rectolaw25_four : Pat := { slots := [], ents := [] }
abbrev O_rectolaw25_four : Pat := { slots := [(0, .ce (.v .bool))], ents := [] }
def c_rectolaw25_four : Ctr := { k0 := 0, inp := I_rectolaw25_four, body := fun v => .ret ⟨O_rectolaw25_four, ((Sp.tt), ())⟩ }
def an_rectolaw25_four : Ann := []
def cx_rectolaw25_four : Cx := mkCx [(22, [c_blend_Join]), (24, [c_blend_Texts]), (27, [c_rectoplain_Texts]), (28, [c_blend_Clean])]
theorem eq_rectolaw25_four  (R : ((p : Pat) × p.V) → Prop) : fnVc (cx_rectolaw25_four) an_rectolaw25_four 0 Try.f21 I_rectolaw25_four [O_rectolaw25_four] (()) R = rectolaw25_four.vc (fun y0 => R ⟨O_rectolaw25_four, (y0, ())⟩)  := by kernel_rfl
theorem fs_rectolaw25_four : CtrsOk Try.prog [(22, [c_blend_Join]), (24, [c_blend_Texts]), (27, [c_rectoplain_Texts]), (28, [c_blend_Clean])] := ⟨ctr1 ctr_blend_Join, ctr1 ctr_blend_Texts, ctr1 ctr_rectoplain_Texts, ctr1 ctr_blend_Clean, trivial⟩
theorem vc_rectolaw25_four (H : Nat → Entry) (v : c_rectolaw25_four.inp.V) (r : (p : Pat) × p.V) (h : (c_rectolaw25_four.body v).Sel H r) : fnVc (cx_rectolaw25_four) an_rectolaw25_four 0 Try.f21 c_rectolaw25_four.inp [O_rectolaw25_four] v (fun r' => r' = r) := by
  obtain ⟨⟩ := v
  obtain rfl := h
  exact Eq.mpr (eq_rectolaw25_four  _) (rectolaw25_four.ok _   rfl)
theorem ctr_rectolaw25_four : CtrOk Try.prog 21 c_rectolaw25_four := ⟨⟨_, Try.func21, by kernel_rfl, by kernel_rfl⟩, fun H v r h => mk_ok _ (fs_rectolaw25_four) (an := an_rectolaw25_four) (outs := [O_rectolaw25_four]) Try.func21 (by decide) (vc_rectolaw25_four H v r h)⟩
end Vs
