/- Functions held against what they tell. Written by a program of this session. -/
import Derived.Test.YtniobmaoangdmaaPlW
import Derived.Test.YtniobmaoangdmaaViThree
import Derived.Test.YtniobmaoangdmaaFnwA
set_option linter.unnecessarySimpa false
set_option linter.unusedVariables false
set_option linter.unusedSectionVars false
set_option linter.unusedSimpArgs false
set_option autoImplicit false
set_option linter.unusedVariables false
set_option maxRecDepth 100000
attribute [local irreducible] Vi.fnVc
namespace Vs
open Go Vi Go.Proofs
abbrev I_strings_Builder_WriteString : Pat := { slots := [(0, .ce (.ptr 0 0)), (1, .ce (.v .str))], ents := [.box 66 [.pn 0, .os 1], .row 5 (.int .u8)] }
abbrev O_strings_Builder_WriteString : Pat := { slots := [(0, .ce (.v (.int .i64))), (1, .ce .z)], ents := [.box 66 [.pn 0, .os 1], .row 5 (.int .u8)] }
def c_strings_Builder_WriteString : Ctr := { k0 := 1, inp := I_strings_Builder_WriteString, body := fun v => .need (Sp.wr.pre v.2.1 v.1) (.ret ⟨O_strings_Builder_WriteString, ((v.1.length : Int), Sp.wr v.2.1 v.1, ())⟩), ex := 0 }
def an_strings_Builder_WriteString : Ann := []
def cx_strings_Builder_WriteString : Cx := mkCx []
theorem eq_strings_Builder_WriteString (s : Str) (x : (List Int)) (R : ((p : Pat) × p.V) → Prop) : fnVc (cx_strings_Builder_WriteString) an_strings_Builder_WriteString 1 Try.f30 I_strings_Builder_WriteString [O_strings_Builder_WriteString] (s, x, ()) R = strings_Builder_WriteString.vc (fun y0 y1 => R ⟨O_strings_Builder_WriteString, (y0, y1, ())⟩) s x := by kernel_rfl
theorem fs_strings_Builder_WriteString : CtrsOk Try.prog [] := trivial
theorem vc_strings_Builder_WriteString (H : Nat → Entry) (v : c_strings_Builder_WriteString.inp.V) (r : (p : Pat) × p.V) (h : (c_strings_Builder_WriteString.body v).Sel H r) : fnVc (cx_strings_Builder_WriteString) an_strings_Builder_WriteString 1 Try.f30 c_strings_Builder_WriteString.inp [O_strings_Builder_WriteString] v (fun r' => r' = r) := by
  obtain ⟨s, x, ⟨⟩⟩ := v
  obtain ⟨h, rfl⟩ := h
  exact Eq.mpr (eq_strings_Builder_WriteString s x _) (strings_Builder_WriteString.ok _ s x h rfl)
theorem ctr_strings_Builder_WriteString : CtrOk Try.prog 30 c_strings_Builder_WriteString := ⟨⟨_, Try.func30, by kernel_rfl, by kernel_rfl⟩, fun H v r h => mk_ok _ (fs_strings_Builder_WriteString) (an := an_strings_Builder_WriteString) (outs := [O_strings_Builder_WriteString]) Try.func30 (by decide) (vc_strings_Builder_WriteString H v r h)⟩
abbrev I_strings_Builder_String : Pat := { slots := [(0, .ce (.ptr 0 0))], ents := [.box 66 [.pn 0, .os 1], .row 5 (.int .u8)] }
abbrev O_strings_Builder_String : Pat := { slots := [(0, .ce (.v .str))], ents := [.box 66 [.pn 0, .z]] }
def c_strings_Builder_String : Ctr := { k0 := 1, inp := I_strings_Builder_String, body := fun v => .ret ⟨O_strings_Builder_String, (bytesOf v.1, ())⟩, ex := 0 }
def an_strings_Builder_String : Ann := []
def cx_strings_Builder_String : Cx := mkCx []
theorem eq_strings_Builder_String (x : (List Int)) (R : ((p : Pat) × p.V) → Prop) : fnVc (cx_strings_Builder_String) an_strings_Builder_String 1 Try.f31 I_strings_Builder_String [O_strings_Builder_String] (x, ()) R = strings_Builder_String.vc (fun y0 => R ⟨O_strings_Builder_String, (y0, ())⟩) x := by kernel_rfl
theorem fs_strings_Builder_String : CtrsOk Try.prog [] := trivial
theorem vc_strings_Builder_String (H : Nat → Entry) (v : c_strings_Builder_String.inp.V) (r : (p : Pat) × p.V) (h : (c_strings_Builder_String.body v).Sel H r) : fnVc (cx_strings_Builder_String) an_strings_Builder_String 1 Try.f31 c_strings_Builder_String.inp [O_strings_Builder_String] v (fun r' => r' = r) := by
  obtain ⟨x, ⟨⟩⟩ := v
  obtain rfl := h
  exact Eq.mpr (eq_strings_Builder_String x _) (strings_Builder_String.ok _ x  rfl)
theorem ctr_strings_Builder_String : CtrOk Try.prog 31 c_strings_Builder_String := ⟨⟨_, Try.func31, by kernel_rfl, by kernel_rfl⟩, fun H v r h => mk_ok _ (fs_strings_Builder_String) (an := an_strings_Builder_String) (outs := [O_strings_Builder_String]) Try.func31 (by decide) (vc_strings_Builder_String H v r h)⟩
abbrev I_chars_Space : Pat := { slots := [(0, .ce (.v (.int .u8)))], ents := [] }
abbrev O_chars_Space : Pat := { slots := [(0, .ce (.v .bool))], ents := [] }
def c_chars_Space : Ctr := { k0 := 0, inp := I_chars_Space, body := fun v => .ret ⟨O_chars_Space, ((Sp.spB v.1), ())⟩, ex := 0 }
def an_chars_Space : Ann := []
def cx_chars_Space : Cx := mkCx []
theorem eq_chars_Space (b : Int) (R : ((p : Pat) × p.V) → Prop) : fnVc (cx_chars_Space) an_chars_Space 0 Try.f23 I_chars_Space [O_chars_Space] (b, ()) R = chars_Space.vc (fun y0 => R ⟨O_chars_Space, (y0, ())⟩) b := by kernel_rfl
theorem fs_chars_Space : CtrsOk Try.prog [] := trivial
theorem vc_chars_Space (H : Nat → Entry) (v : c_chars_Space.inp.V) (r : (p : Pat) × p.V) (h : (c_chars_Space.body v).Sel H r) : fnVc (cx_chars_Space) an_chars_Space 0 Try.f23 c_chars_Space.inp [O_chars_Space] v (fun r' => r' = r) := by
  obtain ⟨b, ⟨⟩⟩ := v
  obtain rfl := h
  exact Eq.mpr (eq_chars_Space b _) (chars_Space.ok _ b  rfl)
theorem ctr_chars_Space : CtrOk Try.prog 23 c_chars_Space := ⟨⟨_, Try.func23, by kernel_rfl, by kernel_rfl⟩, fun H v r h => mk_ok _ (fs_chars_Space) (an := an_chars_Space) (outs := [O_chars_Space]) Try.func23 (by decide) (vc_chars_Space H v r h)⟩
abbrev I_words_Split : Pat := { slots := [(0, .ce (.v .str))], ents := [] }
abbrev O_words_Split : Pat := { slots := [(0, .ce (.v (.sl .str)))], ents := [] }
def c_words_Split : Ctr := { k0 := 0, inp := I_words_Split, body := fun v => .need (Sp.wordsOf.pre v.1) (.ret ⟨O_words_Split, ((Sp.wordsOf v.1), ())⟩), ex := 0 }
def an_words_Split : Ann := [(2, { slots := [(0, .ce (.v .str)), (3, .ce (.os 0))], ents := [.row 9 .str] }), (4, { slots := [(0, .ce (.v .str)), (3, .ce (.os 0)), (4, .ce (.v (.int .i64)))], ents := [.row 9 .str] })]
def cx_words_Split : Cx := mkCx [(23, [c_chars_Space])]
theorem eq_words_Split (s : Str) (R : ((p : Pat) × p.V) → Prop) : fnVc (cx_words_Split) an_words_Split 0 Try.f12 I_words_Split [O_words_Split] (s, ()) R = words_Split.vc (fun y0 => R ⟨O_words_Split, (y0, ())⟩) s := by kernel_rfl
theorem fs_words_Split : CtrsOk Try.prog [(23, [c_chars_Space])] := ⟨ctr1 (ctr_chars_Space), trivial⟩
theorem vc_words_Split (H : Nat → Entry) (v : c_words_Split.inp.V) (r : (p : Pat) × p.V) (h : (c_words_Split.body v).Sel H r) : fnVc (cx_words_Split) an_words_Split 0 Try.f12 c_words_Split.inp [O_words_Split] v (fun r' => r' = r) := by
  obtain ⟨s, ⟨⟩⟩ := v
  obtain ⟨h, rfl⟩ := h
  exact Eq.mpr (eq_words_Split s _) (words_Split.ok _ s h rfl)
theorem ctr_words_Split : CtrOk Try.prog 12 c_words_Split := ⟨⟨_, Try.func12, by kernel_rfl, by kernel_rfl⟩, fun H v r h => mk_ok _ (fs_words_Split) (an := an_words_Split) (outs := [O_words_Split]) Try.func12 (by decide) (vc_words_Split H v r h)⟩
abbrev I_words_Lists_1 : Pat := { slots := [(0, .ce (.v (.int .i64))), (1, .ce (.v (.int .i64))), (2, .ce (.ptr 0 0)), (3, .ce (.ptr 1 0)), (4, .ce (.ptr 2 0)), (5, .ce (.ptr 3 0)), (6, .ce (.ptr 4 0))], ents := [.box 3 [.v (.int .i64)], .box 26 [.os 5], .box 22 [.v (.sl .str)], .box 3 [.v (.int .i64)], .box 22 [.v (.sl .str)], .row 40 (.pair (.int .i64) .str)] }
abbrev O_words_Lists_1 : Pat := { slots := [], ents := [.box 3 [.v (.int .i64)], .box 26 [.os 5], .box 22 [.v (.sl .str)], .box 3 [.v (.int .i64)], .box 22 [.v (.sl .str)], .row 40 (.pair (.int .i64) .str)] }
def c_words_Lists_1 : Ctr := { k0 := 5, inp := I_words_Lists_1, body := fun v => .need (Sp.up.pre v.1 v.2.1 v.2.2.1 v.2.2.2.2.2.2.1 v.2.2.2.1 v.2.2.2.2.1 v.2.2.2.2.2.1) (.ret ⟨O_words_Lists_1, (v.1, v.2.2.2.1, v.2.1, v.2.2.2.2.2.1, Sp.up v.1 v.2.1 v.2.2.1 v.2.2.2.2.2.2.1 v.2.2.2.1 v.2.2.2.2.1 v.2.2.2.2.2.1, ())⟩), ex := 0 }
def an_words_Lists_1 : Ann := [(0, { slots := [(0, .ce (.v (.int .i64))), (1, .ce (.v (.int .i64))), (2, .ce (.ptr 0 0)), (3, .ce (.ptr 1 0)), (4, .ce (.ptr 2 0)), (5, .ce (.ptr 3 0)), (6, .ce (.ptr 4 0))], ents := [.box 3 [.v (.int .i64)], .box 26 [.os 5], .box 22 [.v (.sl .str)], .box 3 [.v (.int .i64)], .box 22 [.v (.sl .str)], .row 40 (.pair (.int .i64) .str)] }), (3, { slots := [(1, .ce (.v (.int .i64))), (3, .ce (.ptr 1 0)), (5, .ce (.ptr 3 0)), (6, .ce (.ptr 4 0))], ents := [.box 3 [.v (.int .i64)], .box 26 [.os 5], .box 22 [.v (.sl .str)], .box 3 [.v (.int .i64)], .box 22 [.v (.sl .str)], .row 40 (.pair (.int .i64) .str)] })]
def cx_words_Lists_1 : Cx := mkCx []
theorem eq_words_Lists_1 (toA : Int) (toB : Int) (i : Int) (a : (List Str)) (j : Int) (b : (List Str)) (out : (List (Int × Str))) (R : ((p : Pat) × p.V) → Prop) : fnVc (cx_words_Lists_1) an_words_Lists_1 5 Try.f20 I_words_Lists_1 [O_words_Lists_1] (toA, toB, i, a, j, b, out, ()) R = words_Lists_1.vc (fun y0 y1 y2 y3 y4 => R ⟨O_words_Lists_1, (y0, y1, y2, y3, y4, ())⟩) toA toB i a j b out := by kernel_rfl
theorem fs_words_Lists_1 : CtrsOk Try.prog [] := trivial
theorem vc_words_Lists_1 (H : Nat → Entry) (v : c_words_Lists_1.inp.V) (r : (p : Pat) × p.V) (h : (c_words_Lists_1.body v).Sel H r) : fnVc (cx_words_Lists_1) an_words_Lists_1 5 Try.f20 c_words_Lists_1.inp [O_words_Lists_1] v (fun r' => r' = r) := by
  obtain ⟨toA, toB, i, a, j, b, out, ⟨⟩⟩ := v
  obtain ⟨h, rfl⟩ := h
  exact Eq.mpr (eq_words_Lists_1 toA toB i a j b out _) (words_Lists_1.ok _ toA toB i a j b out h rfl)
theorem ctr_words_Lists_1 : CtrOk Try.prog 20 c_words_Lists_1 := ⟨⟨_, Try.func20, by kernel_rfl, by kernel_rfl⟩, fun H v r h => mk_ok _ (fs_words_Lists_1) (an := an_words_Lists_1) (outs := [O_words_Lists_1]) Try.func20 (by decide) (vc_words_Lists_1 H v r h)⟩
abbrev I_words_Lists : Pat := { slots := [(0, .ce (.v (.sl .str))), (1, .ce (.v (.sl .str)))], ents := [] }
abbrev O_words_Lists : Pat := { slots := [(0, .ce (.v (.sl (.pair (.int .i64) .str))))], ents := [] }
def c_words_Lists : Ctr := { k0 := 0, inp := I_words_Lists, body := fun v => .need (Sp.listsP.pre v.1 v.2.1) (.ret ⟨O_words_Lists, ((Sp.listsP v.1 v.2.1), ())⟩), ex := 0 }
def an_words_Lists : Ann := [(5, { slots := [(2, .ce (.ptr 0 0)), (3, .ce (.ptr 1 0)), (5, .ce (.ptr 2 0)), (6, .ce (.ptr 4 0)), (7, .ce (.ptr 5 0)), (8, .ce (.fn 20 [] [4, 2, 0, 5, 1])), (14, .ce (.os 6)), (15, .ce (.v (.int .i64))), (16, .ce (.v (.int .i64)))], ents := [.box 22 [.v (.sl .str)], .box 22 [.v (.sl .str)], .box 26 [.os 3], .row 40 (.pair (.int .i64) .str), .box 3 [.v (.int .i64)], .box 3 [.v (.int .i64)], .row 47 (.pair (.int .i64) (.pair (.int .i64) .bool))] })]
def cx_words_Lists : Cx := mkCx [(21, [c_match_Line]), (20, [c_words_Lists_1])]
theorem eq_words_Lists (a : (List Str)) (b : (List Str)) (R : ((p : Pat) × p.V) → Prop) : fnVc (cx_words_Lists) an_words_Lists 0 Try.f10 I_words_Lists [O_words_Lists] (a, b, ()) R = words_Lists.vc (fun y0 => R ⟨O_words_Lists, (y0, ())⟩) a b := by kernel_rfl
theorem fs_words_Lists : CtrsOk Try.prog [(21, [c_match_Line]), (20, [c_words_Lists_1])] := ⟨ctr1 (ctr_match_Line), ctr1 (ctr_words_Lists_1), trivial⟩
theorem vc_words_Lists (H : Nat → Entry) (v : c_words_Lists.inp.V) (r : (p : Pat) × p.V) (h : (c_words_Lists.body v).Sel H r) : fnVc (cx_words_Lists) an_words_Lists 0 Try.f10 c_words_Lists.inp [O_words_Lists] v (fun r' => r' = r) := by
  obtain ⟨a, b, ⟨⟩⟩ := v
  obtain ⟨h, rfl⟩ := h
  exact Eq.mpr (eq_words_Lists a b _) (words_Lists.ok _ a b h rfl)
theorem ctr_words_Lists : CtrOk Try.prog 10 c_words_Lists := ⟨⟨_, Try.func10, by kernel_rfl, by kernel_rfl⟩, fun H v r h => mk_ok _ (fs_words_Lists) (an := an_words_Lists) (outs := [O_words_Lists]) Try.func10 (by decide) (vc_words_Lists H v r h)⟩
abbrev I_words_melted : Pat := { slots := [(0, .ce (.v (.sl (.pair (.int .i64) .str))))], ents := [] }
abbrev O_words_melted : Pat := { slots := [(0, .ce (.v (.sl (.pair (.int .i64) .str))))], ents := [] }
def c_words_melted : Ctr := { k0 := 0, inp := I_words_melted, body := fun v => .need (Sp.melted.pre v.1) (.ret ⟨O_words_melted, ((Sp.melted v.1), ())⟩), ex := 0 }
def an_words_melted : Ann := [(3, { slots := [(3, .ce (.os 0)), (7, .ce (.v (.sl (.pair (.int .i64) .str)))), (8, .ce (.v (.int .i64))), (9, .ce (.v (.int .i64)))], ents := [.row 40 (.pair (.int .i64) .str)] })]
def cx_words_melted : Cx := mkCx []
theorem eq_words_melted (l : (List (Int × Str))) (R : ((p : Pat) × p.V) → Prop) : fnVc (cx_words_melted) an_words_melted 0 Try.f27 I_words_melted [O_words_melted] (l, ()) R = words_melted.vc (fun y0 => R ⟨O_words_melted, (y0, ())⟩) l := by kernel_rfl
theorem fs_words_melted : CtrsOk Try.prog [] := trivial
theorem vc_words_melted (H : Nat → Entry) (v : c_words_melted.inp.V) (r : (p : Pat) × p.V) (h : (c_words_melted.body v).Sel H r) : fnVc (cx_words_melted) an_words_melted 0 Try.f27 c_words_melted.inp [O_words_melted] v (fun r' => r' = r) := by
  obtain ⟨l, ⟨⟩⟩ := v
  obtain ⟨h, rfl⟩ := h
  exact Eq.mpr (eq_words_melted l _) (words_melted.ok _ l h rfl)
theorem ctr_words_melted : CtrOk Try.prog 27 c_words_melted := ⟨⟨_, Try.func27, by kernel_rfl, by kernel_rfl⟩, fun H v r h => mk_ok _ (fs_words_melted) (an := an_words_melted) (outs := [O_words_melted]) Try.func27 (by decide) (vc_words_melted H v r h)⟩
abbrev I_words_Texts : Pat := { slots := [(0, .ce (.v .str)), (1, .ce (.v .str))], ents := [] }
abbrev O_words_Texts : Pat := { slots := [(0, .ce (.v (.sl (.pair (.int .i64) .str))))], ents := [] }
def c_words_Texts : Ctr := { k0 := 0, inp := I_words_Texts, body := fun v => .need (Sp.textsP.pre v.1 v.2.1) (.ret ⟨O_words_Texts, ((Sp.textsP v.1 v.2.1), ())⟩), ex := 0 }
def an_words_Texts : Ann := []
def cx_words_Texts : Cx := mkCx [(12, [c_words_Split]), (27, [c_words_melted]), (10, [c_words_Lists])]
theorem eq_words_Texts (a : Str) (b : Str) (R : ((p : Pat) × p.V) → Prop) : fnVc (cx_words_Texts) an_words_Texts 0 Try.f19 I_words_Texts [O_words_Texts] (a, b, ()) R = words_Texts.vc (fun y0 => R ⟨O_words_Texts, (y0, ())⟩) a b := by kernel_rfl
theorem fs_words_Texts : CtrsOk Try.prog [(12, [c_words_Split]), (27, [c_words_melted]), (10, [c_words_Lists])] := ⟨ctr1 (ctr_words_Split), ctr1 (ctr_words_melted), ctr1 (ctr_words_Lists), trivial⟩
theorem vc_words_Texts (H : Nat → Entry) (v : c_words_Texts.inp.V) (r : (p : Pat) × p.V) (h : (c_words_Texts.body v).Sel H r) : fnVc (cx_words_Texts) an_words_Texts 0 Try.f19 c_words_Texts.inp [O_words_Texts] v (fun r' => r' = r) := by
  obtain ⟨a, b, ⟨⟩⟩ := v
  obtain ⟨h, rfl⟩ := h
  exact Eq.mpr (eq_words_Texts a b _) (words_Texts.ok _ a b h rfl)
theorem ctr_words_Texts : CtrOk Try.prog 19 c_words_Texts := ⟨⟨_, Try.func19, by kernel_rfl, by kernel_rfl⟩, fun H v r h => mk_ok _ (fs_words_Texts) (an := an_words_Texts) (outs := [O_words_Texts]) Try.func19 (by decide) (vc_words_Texts H v r h)⟩
abbrev I_words_but_1 : Pat := { slots := [(0, .ag (.pair (.int .i64) .str)), (1, .ce (.ptr 0 0))], ents := [.box 3 [.v (.int .i64)]] }
abbrev O_words_but_1 : Pat := { slots := [(0, .ce (.v .str))], ents := [.box 3 [.v (.int .i64)]] }
def c_words_but_1 : Ctr := { k0 := 1, inp := I_words_but_1, body := fun v => .ret ⟨O_words_but_1, (Sp.butF v.2.1 v.1, v.2.1, ())⟩, ex := 0 }
def an_words_but_1 : Ann := []
def cx_words_but_1 : Cx := mkCx []
theorem eq_words_but_1 (p : (Int × Str)) (k : Int) (R : ((p : Pat) × p.V) → Prop) : fnVc (cx_words_but_1) an_words_but_1 1 Try.f32 I_words_but_1 [O_words_but_1] (p, k, ()) R = words_but_1.vc (fun y0 y1 => R ⟨O_words_but_1, (y0, y1, ())⟩) p k := by kernel_rfl
theorem fs_words_but_1 : CtrsOk Try.prog [] := trivial
theorem vc_words_but_1 (H : Nat → Entry) (v : c_words_but_1.inp.V) (r : (p : Pat) × p.V) (h : (c_words_but_1.body v).Sel H r) : fnVc (cx_words_but_1) an_words_but_1 1 Try.f32 c_words_but_1.inp [O_words_but_1] v (fun r' => r' = r) := by
  obtain ⟨p, k, ⟨⟩⟩ := v
  obtain rfl := h
  exact Eq.mpr (eq_words_but_1 p k _) (words_but_1.ok _ p k  rfl)
theorem ctr_words_but_1 : CtrOk Try.prog 32 c_words_but_1 := ⟨⟨_, Try.func32, by kernel_rfl, by kernel_rfl⟩, fun H v r h => mk_ok _ (fs_words_but_1) (an := an_words_but_1) (outs := [O_words_but_1]) Try.func32 (by decide) (vc_words_but_1 H v r h)⟩
abbrev I_words_but : Pat := { slots := [(0, .ce (.v (.int .i64)))], ents := [] }
abbrev O_words_but : Pat := { slots := [(0, .ce (.fn 32 [] [0]))], ents := [.box 3 [.v (.int .i64)]] }
def c_words_but : Ctr := { k0 := 0, inp := I_words_but, body := fun v => .ret ⟨O_words_but, (v.1, ())⟩, ex := 0 }
def an_words_but : Ann := []
def cx_words_but : Cx := mkCx []
theorem eq_words_but (k : Int) (R : ((p : Pat) × p.V) → Prop) : fnVc (cx_words_but) an_words_but 0 Try.f25 I_words_but [O_words_but] (k, ()) R = words_but.vc (fun y0 => R ⟨O_words_but, (y0, ())⟩) k := by kernel_rfl
theorem fs_words_but : CtrsOk Try.prog [] := trivial
theorem vc_words_but (H : Nat → Entry) (v : c_words_but.inp.V) (r : (p : Pat) × p.V) (h : (c_words_but.body v).Sel H r) : fnVc (cx_words_but) an_words_but 0 Try.f25 c_words_but.inp [O_words_but] v (fun r' => r' = r) := by
  obtain ⟨k, ⟨⟩⟩ := v
  obtain rfl := h
  exact Eq.mpr (eq_words_but k _) (words_but.ok _ k  rfl)
theorem ctr_words_but : CtrOk Try.prog 25 c_words_but := ⟨⟨_, Try.func25, by kernel_rfl, by kernel_rfl⟩, fun H v r h => mk_ok _ (fs_words_but) (an := an_words_but) (outs := [O_words_but]) Try.func25 (by decide) (vc_words_but H v r h)⟩
abbrev I_words_Marked_1 : Pat := { slots := [(0, .ag (.pair (.int .i64) .str))], ents := [] }
abbrev O_words_Marked_1 : Pat := { slots := [(0, .ce (.v .str))], ents := [] }
def c_words_Marked_1 : Ctr := { k0 := 0, inp := I_words_Marked_1, body := fun v => .need (Sp.markF.pre v.1) (.ret ⟨O_words_Marked_1, ((Sp.markF v.1), ())⟩), ex := 0 }
def an_words_Marked_1 : Ann := []
def cx_words_Marked_1 : Cx := mkCx []
theorem eq_words_Marked_1 (p : (Int × Str)) (R : ((p : Pat) × p.V) → Prop) : fnVc (cx_words_Marked_1) an_words_Marked_1 0 Try.f26 I_words_Marked_1 [O_words_Marked_1] (p, ()) R = words_Marked_1.vc (fun y0 => R ⟨O_words_Marked_1, (y0, ())⟩) p := by kernel_rfl
theorem fs_words_Marked_1 : CtrsOk Try.prog [] := trivial
theorem vc_words_Marked_1 (H : Nat → Entry) (v : c_words_Marked_1.inp.V) (r : (p : Pat) × p.V) (h : (c_words_Marked_1.body v).Sel H r) : fnVc (cx_words_Marked_1) an_words_Marked_1 0 Try.f26 c_words_Marked_1.inp [O_words_Marked_1] v (fun r' => r' = r) := by
  obtain ⟨p, ⟨⟩⟩ := v
  obtain ⟨h, rfl⟩ := h
  exact Eq.mpr (eq_words_Marked_1 p _) (words_Marked_1.ok _ p h rfl)
theorem ctr_words_Marked_1 : CtrOk Try.prog 26 c_words_Marked_1 := ⟨⟨_, Try.func26, by kernel_rfl, by kernel_rfl⟩, fun H v r h => mk_ok _ (fs_words_Marked_1) (an := an_words_Marked_1) (outs := [O_words_Marked_1]) Try.func26 (by decide) (vc_words_Marked_1 H v r h)⟩
abbrev I_words_told : Pat := { slots := [(0, .ce (.v (.sl (.pair (.int .i64) .str)))), (1, .ce (.fn 32 [] [0]))], ents := [.box 3 [.v (.int .i64)]] }
abbrev O_words_told : Pat := { slots := [(0, .ce (.v .str))], ents := [.box 3 [.v (.int .i64)]] }
def c_words_told : Ctr := { k0 := 1, inp := I_words_told, body := fun v => .need (Sp.toldK.pre v.1 v.2.1) (.ret ⟨O_words_told, (Sp.toldK v.1 v.2.1, v.2.1, ())⟩), ex := 0 }
def an_words_told : Ann := [(3, { slots := [(1, .ce (.fn 32 [] [0])), (5, .ce (.ptr 1 0)), (8, .ce (.v (.sl (.pair (.int .i64) .str)))), (9, .ce (.v (.int .i64))), (10, .ce (.v (.int .i64)))], ents := [.box 3 [.v (.int .i64)], .box 66 [.pn 1, .os 2], .row 5 (.int .u8)] })]
def cx_words_told : Cx := mkCx [(30, [c_strings_Builder_WriteString]), (31, [c_strings_Builder_String]), (32, [c_words_but_1])]
theorem eq_words_told (l : (List (Int × Str))) (k : Int) (R : ((p : Pat) × p.V) → Prop) : fnVc (cx_words_told) an_words_told 1 Try.f24 I_words_told [O_words_told] (l, k, ()) R = words_told.vc (fun y0 y1 => R ⟨O_words_told, (y0, y1, ())⟩) l k := by kernel_rfl
theorem fs_words_told : CtrsOk Try.prog [(30, [c_strings_Builder_WriteString]), (31, [c_strings_Builder_String]), (32, [c_words_but_1])] := ⟨ctr1 (ctr_strings_Builder_WriteString), ctr1 (ctr_strings_Builder_String), ctr1 (ctr_words_but_1), trivial⟩
theorem vc_words_told (H : Nat → Entry) (v : c_words_told.inp.V) (r : (p : Pat) × p.V) (h : (c_words_told.body v).Sel H r) : fnVc (cx_words_told) an_words_told 1 Try.f24 c_words_told.inp [O_words_told] v (fun r' => r' = r) := by
  obtain ⟨l, k, ⟨⟩⟩ := v
  obtain ⟨h, rfl⟩ := h
  exact Eq.mpr (eq_words_told l k _) (words_told.ok _ l k h rfl)
theorem ctr_words_told : CtrOk Try.prog 24 c_words_told := ⟨⟨_, Try.func24, by kernel_rfl, by kernel_rfl⟩, fun H v r h => mk_ok _ (fs_words_told) (an := an_words_told) (outs := [O_words_told]) Try.func24 (by decide) (vc_words_told H v r h)⟩
abbrev I_words_told_m : Pat := { slots := [(0, .ce (.v (.sl (.pair (.int .i64) .str)))), (1, .ce (.fn 26 [] []))], ents := [] }
abbrev O_words_told_m : Pat := { slots := [(0, .ce (.v .str))], ents := [] }
def c_words_told_m : Ctr := { k0 := 0, inp := I_words_told_m, body := fun v => .need (Sp.marks.pre v.1) (.ret ⟨O_words_told_m, (Sp.marks v.1, ())⟩), ex := 0 }
def an_words_told_m : Ann := [(3, { slots := [(1, .ce (.fn 26 [] [])), (5, .ce (.ptr 0 0)), (8, .ce (.v (.sl (.pair (.int .i64) .str)))), (9, .ce (.v (.int .i64))), (10, .ce (.v (.int .i64)))], ents := [.box 66 [.pn 0, .os 1], .row 5 (.int .u8)] })]
def cx_words_told_m : Cx := mkCx [(30, [c_strings_Builder_WriteString]), (31, [c_strings_Builder_String]), (26, [c_words_Marked_1])]
theorem eq_words_told_m (l : (List (Int × Str))) (R : ((p : Pat) × p.V) → Prop) : fnVc (cx_words_told_m) an_words_told_m 0 Try.f24 I_words_told_m [O_words_told_m] (l, ()) R = words_told_m.vc (fun y0 => R ⟨O_words_told_m, (y0, ())⟩) l := by kernel_rfl
theorem fs_words_told_m : CtrsOk Try.prog [(30, [c_strings_Builder_WriteString]), (31, [c_strings_Builder_String]), (26, [c_words_Marked_1])] := ⟨ctr1 (ctr_strings_Builder_WriteString), ctr1 (ctr_strings_Builder_String), ctr1 (ctr_words_Marked_1), trivial⟩
theorem vc_words_told_m (H : Nat → Entry) (v : c_words_told_m.inp.V) (r : (p : Pat) × p.V) (h : (c_words_told_m.body v).Sel H r) : fnVc (cx_words_told_m) an_words_told_m 0 Try.f24 c_words_told_m.inp [O_words_told_m] v (fun r' => r' = r) := by
  obtain ⟨l, ⟨⟩⟩ := v
  obtain ⟨h, rfl⟩ := h
  exact Eq.mpr (eq_words_told_m l _) (words_told_m.ok _ l h rfl)
theorem ctr_words_told_m : CtrOk Try.prog 24 c_words_told_m := ⟨⟨_, Try.func24, by kernel_rfl, by kernel_rfl⟩, fun H v r h => mk_ok _ (fs_words_told_m) (an := an_words_told_m) (outs := [O_words_told_m]) Try.func24 (by decide) (vc_words_told_m H v r h)⟩
abbrev I_words_Old : Pat := { slots := [(0, .ce (.v (.sl (.pair (.int .i64) .str))))], ents := [] }
abbrev O_words_Old : Pat := { slots := [(0, .ce (.v .str))], ents := [] }
def c_words_Old : Ctr := { k0 := 0, inp := I_words_Old, body := fun v => .need (Sp.oldP.pre v.1) (.ret ⟨O_words_Old, ((Sp.oldP v.1), ())⟩), ex := 0 }
def an_words_Old : Ann := []
def cx_words_Old : Cx := mkCx [(25, [c_words_but]), (24, [c_words_told, c_words_told_m])]
theorem eq_words_Old (l : (List (Int × Str))) (R : ((p : Pat) × p.V) → Prop) : fnVc (cx_words_Old) an_words_Old 0 Try.f14 I_words_Old [O_words_Old] (l, ()) R = words_Old.vc (fun y0 => R ⟨O_words_Old, (y0, ())⟩) l := by kernel_rfl
theorem fs_words_Old : CtrsOk Try.prog [(25, [c_words_but]), (24, [c_words_told, c_words_told_m])] := ⟨ctr1 (ctr_words_but), (ctrC (ctr_words_told) (ctr1 (ctr_words_told_m))), trivial⟩
theorem vc_words_Old (H : Nat → Entry) (v : c_words_Old.inp.V) (r : (p : Pat) × p.V) (h : (c_words_Old.body v).Sel H r) : fnVc (cx_words_Old) an_words_Old 0 Try.f14 c_words_Old.inp [O_words_Old] v (fun r' => r' = r) := by
  obtain ⟨l, ⟨⟩⟩ := v
  obtain ⟨h, rfl⟩ := h
  exact Eq.mpr (eq_words_Old l _) (words_Old.ok _ l h rfl)
theorem ctr_words_Old : CtrOk Try.prog 14 c_words_Old := ⟨⟨_, Try.func14, by kernel_rfl, by kernel_rfl⟩, fun H v r h => mk_ok _ (fs_words_Old) (an := an_words_Old) (outs := [O_words_Old]) Try.func14 (by decide) (vc_words_Old H v r h)⟩
abbrev I_words_New : Pat := { slots := [(0, .ce (.v (.sl (.pair (.int .i64) .str))))], ents := [] }
abbrev O_words_New : Pat := { slots := [(0, .ce (.v .str))], ents := [] }
def c_words_New : Ctr := { k0 := 0, inp := I_words_New, body := fun v => .need (Sp.newP.pre v.1) (.ret ⟨O_words_New, ((Sp.newP v.1), ())⟩), ex := 0 }
def an_words_New : Ann := []
def cx_words_New : Cx := mkCx [(25, [c_words_but]), (24, [c_words_told, c_words_told_m])]
theorem eq_words_New (l : (List (Int × Str))) (R : ((p : Pat) × p.V) → Prop) : fnVc (cx_words_New) an_words_New 0 Try.f16 I_words_New [O_words_New] (l, ()) R = words_New.vc (fun y0 => R ⟨O_words_New, (y0, ())⟩) l := by kernel_rfl
theorem fs_words_New : CtrsOk Try.prog [(25, [c_words_but]), (24, [c_words_told, c_words_told_m])] := ⟨ctr1 (ctr_words_but), (ctrC (ctr_words_told) (ctr1 (ctr_words_told_m))), trivial⟩
theorem vc_words_New (H : Nat → Entry) (v : c_words_New.inp.V) (r : (p : Pat) × p.V) (h : (c_words_New.body v).Sel H r) : fnVc (cx_words_New) an_words_New 0 Try.f16 c_words_New.inp [O_words_New] v (fun r' => r' = r) := by
  obtain ⟨l, ⟨⟩⟩ := v
  obtain ⟨h, rfl⟩ := h
  exact Eq.mpr (eq_words_New l _) (words_New.ok _ l h rfl)
theorem ctr_words_New : CtrOk Try.prog 16 c_words_New := ⟨⟨_, Try.func16, by kernel_rfl, by kernel_rfl⟩, fun H v r h => mk_ok _ (fs_words_New) (an := an_words_New) (outs := [O_words_New]) Try.func16 (by decide) (vc_words_New H v r h)⟩
abbrev I_words_Marked : Pat := { slots := [(0, .ce (.v (.sl (.pair (.int .i64) .str))))], ents := [] }
abbrev O_words_Marked : Pat := { slots := [(0, .ce (.v .str))], ents := [] }
def c_words_Marked : Ctr := { k0 := 0, inp := I_words_Marked, body := fun v => .need (Sp.marks.pre v.1) (.ret ⟨O_words_Marked, ((Sp.marks v.1), ())⟩), ex := 0 }
def an_words_Marked : Ann := []
def cx_words_Marked : Cx := mkCx [(24, [c_words_told, c_words_told_m]), (26, [c_words_Marked_1])]
theorem eq_words_Marked (l : (List (Int × Str))) (R : ((p : Pat) × p.V) → Prop) : fnVc (cx_words_Marked) an_words_Marked 0 Try.f17 I_words_Marked [O_words_Marked] (l, ()) R = words_Marked.vc (fun y0 => R ⟨O_words_Marked, (y0, ())⟩) l := by kernel_rfl
theorem fs_words_Marked : CtrsOk Try.prog [(24, [c_words_told, c_words_told_m]), (26, [c_words_Marked_1])] := ⟨(ctrC (ctr_words_told) (ctr1 (ctr_words_told_m))), ctr1 (ctr_words_Marked_1), trivial⟩
theorem vc_words_Marked (H : Nat → Entry) (v : c_words_Marked.inp.V) (r : (p : Pat) × p.V) (h : (c_words_Marked.body v).Sel H r) : fnVc (cx_words_Marked) an_words_Marked 0 Try.f17 c_words_Marked.inp [O_words_Marked] v (fun r' => r' = r) := by
  obtain ⟨l, ⟨⟩⟩ := v
  obtain ⟨h, rfl⟩ := h
  exact Eq.mpr (eq_words_Marked l _) (words_Marked.ok _ l h rfl)
theorem ctr_words_Marked : CtrOk Try.prog 17 c_words_Marked := ⟨⟨_, Try.func17, by kernel_rfl, by kernel_rfl⟩, fun H v r h => mk_ok _ (fs_words_Marked) (an := an_words_Marked) (outs := [O_words_Marked]) Try.func17 (by decide) (vc_words_Marked H v r h)⟩
abbrev I_rectoref24_Told : Pat := { slots := [(0, .ce (.v (.sl (.pair (.int .i64) .str)))), (1, .ce (.v (.int .i64)))], ents := [] }
abbrev O_rectoref24_Told : Pat := { slots := [(0, .ce (.v .str))], ents := [] }
def c_rectoref24_Told : Ctr := { k0 := 0, inp := I_rectoref24_Told, body := fun v => .need (Sp.toldK.pre v.1 v.2.1) (.ret ⟨O_rectoref24_Told, ((Sp.toldK v.1 v.2.1), ())⟩), ex := 0 }
def an_rectoref24_Told : Ann := [(3, { slots := [(1, .ce (.v (.int .i64))), (5, .ce (.v .str)), (8, .ce (.v (.sl (.pair (.int .i64) .str)))), (9, .ce (.v (.int .i64))), (10, .ce (.v (.int .i64)))], ents := [] })]
def cx_rectoref24_Told : Cx := mkCx []
theorem eq_rectoref24_Told (l : (List (Int × Str))) (kind : Int) (R : ((p : Pat) × p.V) → Prop) : fnVc (cx_rectoref24_Told) an_rectoref24_Told 0 Try.f15 I_rectoref24_Told [O_rectoref24_Told] (l, kind, ()) R = rectoref24_Told.vc (fun y0 => R ⟨O_rectoref24_Told, (y0, ())⟩) l kind := by kernel_rfl
theorem fs_rectoref24_Told : CtrsOk Try.prog [] := trivial
theorem vc_rectoref24_Told (H : Nat → Entry) (v : c_rectoref24_Told.inp.V) (r : (p : Pat) × p.V) (h : (c_rectoref24_Told.body v).Sel H r) : fnVc (cx_rectoref24_Told) an_rectoref24_Told 0 Try.f15 c_rectoref24_Told.inp [O_rectoref24_Told] v (fun r' => r' = r) := by
  obtain ⟨l, kind, ⟨⟩⟩ := v
  obtain ⟨h, rfl⟩ := h
  exact Eq.mpr (eq_rectoref24_Told l kind _) (rectoref24_Told.ok _ l kind h rfl)
theorem ctr_rectoref24_Told : CtrOk Try.prog 15 c_rectoref24_Told := ⟨⟨_, Try.func15, by kernel_rfl, by kernel_rfl⟩, fun H v r h => mk_ok _ (fs_rectoref24_Told) (an := an_rectoref24_Told) (outs := [O_rectoref24_Told]) Try.func15 (by decide) (vc_rectoref24_Told H v r h)⟩
abbrev I_rectoref24_Marked : Pat := { slots := [(0, .ce (.v (.sl (.pair (.int .i64) .str))))], ents := [] }
abbrev O_rectoref24_Marked : Pat := { slots := [(0, .ce (.v .str))], ents := [] }
def c_rectoref24_Marked : Ctr := { k0 := 0, inp := I_rectoref24_Marked, body := fun v => .need (Sp.marks.pre v.1) (.ret ⟨O_rectoref24_Marked, ((Sp.marks v.1), ())⟩), ex := 0 }
def an_rectoref24_Marked : Ann := [(3, { slots := [(3, .ce (.v .str)), (6, .ce (.v (.sl (.pair (.int .i64) .str)))), (7, .ce (.v (.int .i64))), (8, .ce (.v (.int .i64)))], ents := [] })]
def cx_rectoref24_Marked : Cx := mkCx []
theorem eq_rectoref24_Marked (l : (List (Int × Str))) (R : ((p : Pat) × p.V) → Prop) : fnVc (cx_rectoref24_Marked) an_rectoref24_Marked 0 Try.f18 I_rectoref24_Marked [O_rectoref24_Marked] (l, ()) R = rectoref24_Marked.vc (fun y0 => R ⟨O_rectoref24_Marked, (y0, ())⟩) l := by kernel_rfl
theorem fs_rectoref24_Marked : CtrsOk Try.prog [] := trivial
theorem vc_rectoref24_Marked (H : Nat → Entry) (v : c_rectoref24_Marked.inp.V) (r : (p : Pat) × p.V) (h : (c_rectoref24_Marked.body v).Sel H r) : fnVc (cx_rectoref24_Marked) an_rectoref24_Marked 0 Try.f18 c_rectoref24_Marked.inp [O_rectoref24_Marked] v (fun r' => r' = r) := by
  obtain ⟨l, ⟨⟩⟩ := v
  obtain ⟨h, rfl⟩ := h
  exact Eq.mpr (eq_rectoref24_Marked l _) (rectoref24_Marked.ok _ l h rfl)
theorem ctr_rectoref24_Marked : CtrOk Try.prog 18 c_rectoref24_Marked := ⟨⟨_, Try.func18, by kernel_rfl, by kernel_rfl⟩, fun H v r h => mk_ok _ (fs_rectoref24_Marked) (an := an_rectoref24_Marked) (outs := [O_rectoref24_Marked]) Try.func18 (by decide) (vc_rectoref24_Marked H v r h)⟩
abbrev I_rectolaw24_abc : Pat := { slots := [], ents := [] }
abbrev O_rectolaw24_abc : Pat := { slots := [(0, .ce (.v .bool))], ents := [] }
def c_rectolaw24_abc : Ctr := { k0 := 0, inp := I_rectolaw24_abc, body := fun v => .ret ⟨O_rectolaw24_abc, ((Sp.tt), ())⟩, ex := 0 }
def an_rectolaw24_abc : Ann := []
def cx_rectolaw24_abc : Cx := mkCx [(19, [c_words_Texts]), (17, [c_words_Marked]), (14, [c_words_Old])]
theorem eq_rectolaw24_abc  (R : ((p : Pat) × p.V) → Prop) : fnVc (cx_rectolaw24_abc) an_rectolaw24_abc 0 Try.f8 I_rectolaw24_abc [O_rectolaw24_abc] (()) R = rectolaw24_abc.vc (fun y0 => R ⟨O_rectolaw24_abc, (y0, ())⟩)  := by kernel_rfl
theorem fs_rectolaw24_abc : CtrsOk Try.prog [(19, [c_words_Texts]), (17, [c_words_Marked]), (14, [c_words_Old])] := ⟨ctr1 (ctr_words_Texts), ctr1 (ctr_words_Marked), ctr1 (ctr_words_Old), trivial⟩
theorem vc_rectolaw24_abc (H : Nat → Entry) (v : c_rectolaw24_abc.inp.V) (r : (p : Pat) × p.V) (h : (c_rectolaw24_abc.body v).Sel H r) : fnVc (cx_rectolaw24_abc) an_rectolaw24_abc 0 Try.f8 c_rectolaw24_abc.inp [O_rectolaw24_abc] v (fun r' => r' = r) := by
  obtain ⟨⟩ := v
  obtain rfl := h
  exact Eq.mpr (eq_rectolaw24_abc  _) (rectolaw24_abc.ok _   rfl)
theorem ctr_rectolaw24_abc : CtrOk Try.prog 8 c_rectolaw24_abc := ⟨⟨_, Try.func8, by kernel_rfl, by kernel_rfl⟩, fun H v r h => mk_ok _ (fs_rectolaw24_abc) (an := an_rectolaw24_abc) (outs := [O_rectolaw24_abc]) Try.func8 (by decide) (vc_rectolaw24_abc H v r h)⟩
abbrev I_rectolaw24_ref : Pat := { slots := [(0, .ce (.v (.sl (.pair (.int .i64) .str))))], ents := [] }
abbrev O_rectolaw24_ref : Pat := { slots := [(0, .ce (.v (.sl (.pair (.int .i64) .str))))], ents := [] }
def c_rectolaw24_ref : Ctr := { k0 := 0, inp := I_rectolaw24_ref, body := fun v => .need (Sp.refP.pre v.1) (.ret ⟨O_rectolaw24_ref, ((Sp.refP v.1), ())⟩), ex := 0 }
def an_rectolaw24_ref : Ann := [(3, { slots := [(3, .ce (.os 0)), (6, .ce (.v (.sl (.pair (.int .i64) .str)))), (7, .ce (.v (.int .i64))), (8, .ce (.v (.int .i64)))], ents := [.row 42 (.pair (.int .i64) .str)] })]
def cx_rectolaw24_ref : Cx := mkCx []
theorem eq_rectolaw24_ref (l : (List (Int × Str))) (R : ((p : Pat) × p.V) → Prop) : fnVc (cx_rectolaw24_ref) an_rectolaw24_ref 0 Try.f13 I_rectolaw24_ref [O_rectolaw24_ref] (l, ()) R = rectolaw24_ref.vc (fun y0 => R ⟨O_rectolaw24_ref, (y0, ())⟩) l := by kernel_rfl
theorem fs_rectolaw24_ref : CtrsOk Try.prog [] := trivial
theorem vc_rectolaw24_ref (H : Nat → Entry) (v : c_rectolaw24_ref.inp.V) (r : (p : Pat) × p.V) (h : (c_rectolaw24_ref.body v).Sel H r) : fnVc (cx_rectolaw24_ref) an_rectolaw24_ref 0 Try.f13 c_rectolaw24_ref.inp [O_rectolaw24_ref] v (fun r' => r' = r) := by
  obtain ⟨l, ⟨⟩⟩ := v
  obtain ⟨h, rfl⟩ := h
  exact Eq.mpr (eq_rectolaw24_ref l _) (rectolaw24_ref.ok _ l h rfl)
theorem ctr_rectolaw24_ref : CtrOk Try.prog 13 c_rectolaw24_ref := ⟨⟨_, Try.func13, by kernel_rfl, by kernel_rfl⟩, fun H v r h => mk_ok _ (fs_rectolaw24_ref) (an := an_rectolaw24_ref) (outs := [O_rectolaw24_ref]) Try.func13 (by decide) (vc_rectolaw24_ref H v r h)⟩
end Vs
