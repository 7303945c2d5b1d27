/- Functions held against what they tell. Written by a program of this session. -/
import Derived.Test.YtmciagbogdlcoaaDoorPlY
import Derived.Test.YtmciagbogdlcoaaDoorViThree
import Derived.Test.YtmciagbogdlcoaaDoorFnnC
set_option linter.unnecessarySimpa false
set_option linter.unusedVariables false
set_option linter.unusedSectionVars false
set_option linter.unusedSimpArgs false
set_option autoImplicit false
set_option linter.unusedVariables false
set_option maxRecDepth 100000
attribute [local irreducible] Vi.fnVc
namespace Vs
open Go Vi Go.Proofs
abbrev I_chars_Space : Pat := { slots := [(0, .ce (.v (.int .u8)))], ents := [] }
abbrev O_chars_Space : Pat := { slots := [(0, .ce (.v .bool))], ents := [] }
def c_chars_Space : Ctr := { k0 := 0, inp := I_chars_Space, body := fun v => .ret ⟨O_chars_Space, ((Sp.spB v.1), ())⟩, ex := 0 }
def an_chars_Space : Ann := []
def cx_chars_Space : Cx := mkCx []
theorem eq_chars_Space (b : Int) (R : ((p : Pat) × p.V) → Prop) : fnVc (cx_chars_Space) an_chars_Space 0 Tryd.f85 I_chars_Space [O_chars_Space] (b, ()) R = chars_Space.vc (fun y0 => R ⟨O_chars_Space, (y0, ())⟩) b := by kernel_rfl
theorem fs_chars_Space : CtrsOk Tryd.prog [] gl := trivial
theorem vc_chars_Space (H : Nat → Entry) (v : c_chars_Space.inp.V) (r : (p : Pat) × p.V) (h : (c_chars_Space.body v).Sel H r) : fnVc (cx_chars_Space) an_chars_Space 0 Tryd.f85 c_chars_Space.inp [O_chars_Space] v (fun r' => r' = r) := by
  obtain ⟨b, ⟨⟩⟩ := v
  obtain rfl := h
  exact Eq.mpr (eq_chars_Space b _) (chars_Space.ok _ b  rfl)
theorem ctr_chars_Space : CtrOk Tryd.prog 85 c_chars_Space gl := ⟨⟨_, Tryd.func85, by kernel_rfl, by kernel_rfl⟩, fun H v r h => mk_ok _ (fs_chars_Space) (an := an_chars_Space) (outs := [O_chars_Space]) Tryd.func85 (by decide) (vc_chars_Space H v r h)⟩
abbrev I_words_Split : Pat := { slots := [(0, .ce (.v .str))], ents := [] }
abbrev O_words_Split : Pat := { slots := [(0, .ce (.v (.sl .str)))], ents := [] }
def c_words_Split : Ctr := { k0 := 0, inp := I_words_Split, body := fun v => .need (Sp.wordsOf.pre v.1) (.ret ⟨O_words_Split, ((Sp.wordsOf v.1), ())⟩), ex := 0 }
def an_words_Split : Ann := [(2, { slots := [(0, .ce (.v .str)), (3, .ce (.os 0))], ents := [.row 9 .str] }), (4, { slots := [(0, .ce (.v .str)), (3, .ce (.os 0)), (4, .ce (.v (.int .i64)))], ents := [.row 9 .str] })]
def cx_words_Split : Cx := mkCx [(85, [c_chars_Space])]
theorem eq_words_Split (s : Str) (R : ((p : Pat) × p.V) → Prop) : fnVc (cx_words_Split) an_words_Split 0 Tryd.f64 I_words_Split [O_words_Split] (s, ()) R = words_Split.vc (fun y0 => R ⟨O_words_Split, (y0, ())⟩) s := by kernel_rfl
theorem fs_words_Split : CtrsOk Tryd.prog [(85, [c_chars_Space])] gl := ⟨ctr1 (ctr_chars_Space), trivial⟩
theorem vc_words_Split (H : Nat → Entry) (v : c_words_Split.inp.V) (r : (p : Pat) × p.V) (h : (c_words_Split.body v).Sel H r) : fnVc (cx_words_Split) an_words_Split 0 Tryd.f64 c_words_Split.inp [O_words_Split] v (fun r' => r' = r) := by
  obtain ⟨s, ⟨⟩⟩ := v
  obtain ⟨h, rfl⟩ := h
  exact Eq.mpr (eq_words_Split s _) (words_Split.ok _ s h rfl)
theorem ctr_words_Split : CtrOk Tryd.prog 64 c_words_Split gl := ⟨⟨_, Tryd.func64, by kernel_rfl, by kernel_rfl⟩, fun H v r h => mk_ok _ (fs_words_Split) (an := an_words_Split) (outs := [O_words_Split]) Tryd.func64 (by decide) (vc_words_Split H v r h)⟩
abbrev I_words_Lists_1 : Pat := { slots := [(0, .ce (.v (.int .i64))), (1, .ce (.v (.int .i64))), (2, .ce (.ptr 0 0)), (3, .ce (.ptr 1 0)), (4, .ce (.ptr 2 0)), (5, .ce (.ptr 3 0)), (6, .ce (.ptr 4 0))], ents := [.box 3 [.v (.int .i64)], .box 69 [.os 5], .box 33 [.v (.sl .str)], .box 3 [.v (.int .i64)], .box 33 [.v (.sl .str)], .row 72 (.pair (.int .i64) .str)] }
abbrev O_words_Lists_1 : Pat := { slots := [], ents := [.box 3 [.v (.int .i64)], .box 69 [.os 5], .box 33 [.v (.sl .str)], .box 3 [.v (.int .i64)], .box 33 [.v (.sl .str)], .row 72 (.pair (.int .i64) .str)] }
def c_words_Lists_1 : Ctr := { k0 := 5, inp := I_words_Lists_1, body := fun v => .need (Sp.up.pre v.1 v.2.1 v.2.2.1 v.2.2.2.2.2.2.1 v.2.2.2.1 v.2.2.2.2.1 v.2.2.2.2.2.1) (.ret ⟨O_words_Lists_1, (v.1, v.2.2.2.1, v.2.1, v.2.2.2.2.2.1, Sp.up v.1 v.2.1 v.2.2.1 v.2.2.2.2.2.2.1 v.2.2.2.1 v.2.2.2.2.1 v.2.2.2.2.2.1, ())⟩), ex := 0 }
def an_words_Lists_1 : Ann := [(0, { slots := [(0, .ce (.v (.int .i64))), (1, .ce (.v (.int .i64))), (2, .ce (.ptr 0 0)), (3, .ce (.ptr 1 0)), (4, .ce (.ptr 2 0)), (5, .ce (.ptr 3 0)), (6, .ce (.ptr 4 0))], ents := [.box 3 [.v (.int .i64)], .box 69 [.os 5], .box 33 [.v (.sl .str)], .box 3 [.v (.int .i64)], .box 33 [.v (.sl .str)], .row 72 (.pair (.int .i64) .str)] }), (3, { slots := [(1, .ce (.v (.int .i64))), (3, .ce (.ptr 1 0)), (5, .ce (.ptr 3 0)), (6, .ce (.ptr 4 0))], ents := [.box 3 [.v (.int .i64)], .box 69 [.os 5], .box 33 [.v (.sl .str)], .box 3 [.v (.int .i64)], .box 33 [.v (.sl .str)], .row 72 (.pair (.int .i64) .str)] })]
def cx_words_Lists_1 : Cx := mkCx []
theorem eq_words_Lists_1 (toA : Int) (toB : Int) (i : Int) (a : (List Str)) (j : Int) (b : (List Str)) (out : (List (Int × Str))) (R : ((p : Pat) × p.V) → Prop) : fnVc (cx_words_Lists_1) an_words_Lists_1 5 Tryd.f69 I_words_Lists_1 [O_words_Lists_1] (toA, toB, i, a, j, b, out, ()) R = words_Lists_1.vc (fun y0 y1 y2 y3 y4 => R ⟨O_words_Lists_1, (y0, y1, y2, y3, y4, ())⟩) toA toB i a j b out := by kernel_rfl
theorem fs_words_Lists_1 : CtrsOk Tryd.prog [] gl := trivial
theorem vc_words_Lists_1 (H : Nat → Entry) (v : c_words_Lists_1.inp.V) (r : (p : Pat) × p.V) (h : (c_words_Lists_1.body v).Sel H r) : fnVc (cx_words_Lists_1) an_words_Lists_1 5 Tryd.f69 c_words_Lists_1.inp [O_words_Lists_1] v (fun r' => r' = r) := by
  obtain ⟨toA, toB, i, a, j, b, out, ⟨⟩⟩ := v
  obtain ⟨h, rfl⟩ := h
  exact Eq.mpr (eq_words_Lists_1 toA toB i a j b out _) (words_Lists_1.ok _ toA toB i a j b out h rfl)
theorem ctr_words_Lists_1 : CtrOk Tryd.prog 69 c_words_Lists_1 gl := ⟨⟨_, Tryd.func69, by kernel_rfl, by kernel_rfl⟩, fun H v r h => mk_ok _ (fs_words_Lists_1) (an := an_words_Lists_1) (outs := [O_words_Lists_1]) Tryd.func69 (by decide) (vc_words_Lists_1 H v r h)⟩
abbrev I_words_Lists : Pat := { slots := [(0, .ce (.v (.sl .str))), (1, .ce (.v (.sl .str)))], ents := [] }
abbrev O_words_Lists : Pat := { slots := [(0, .ce (.v (.sl (.pair (.int .i64) .str))))], ents := [] }
def c_words_Lists : Ctr := { k0 := 0, inp := I_words_Lists, body := fun v => .need (Sp.listsP.pre v.1 v.2.1) (.ret ⟨O_words_Lists, ((Sp.listsP v.1 v.2.1), ())⟩), ex := 0 }
def an_words_Lists : Ann := [(5, { slots := [(2, .ce (.ptr 0 0)), (3, .ce (.ptr 1 0)), (5, .ce (.ptr 2 0)), (6, .ce (.ptr 4 0)), (7, .ce (.ptr 5 0)), (8, .ce (.fn 69 [] [4, 2, 0, 5, 1])), (14, .ce (.os 6)), (15, .ce (.v (.int .i64))), (16, .ce (.v (.int .i64)))], ents := [.box 33 [.v (.sl .str)], .box 33 [.v (.sl .str)], .box 69 [.os 3], .row 72 (.pair (.int .i64) .str), .box 3 [.v (.int .i64)], .box 3 [.v (.int .i64)], .row 101 (.pair (.int .i64) (.pair (.int .i64) .bool))] })]
def cx_words_Lists : Cx := mkCx [(70, [c_match_Line]), (69, [c_words_Lists_1])]
theorem eq_words_Lists (a : (List Str)) (b : (List Str)) (R : ((p : Pat) × p.V) → Prop) : fnVc (cx_words_Lists) an_words_Lists 0 Tryd.f47 I_words_Lists [O_words_Lists] (a, b, ()) R = words_Lists.vc (fun y0 => R ⟨O_words_Lists, (y0, ())⟩) a b := by kernel_rfl
theorem fs_words_Lists : CtrsOk Tryd.prog [(70, [c_match_Line]), (69, [c_words_Lists_1])] gl := ⟨ctr1 (ctr_match_Line), ctr1 (ctr_words_Lists_1), trivial⟩
theorem vc_words_Lists (H : Nat → Entry) (v : c_words_Lists.inp.V) (r : (p : Pat) × p.V) (h : (c_words_Lists.body v).Sel H r) : fnVc (cx_words_Lists) an_words_Lists 0 Tryd.f47 c_words_Lists.inp [O_words_Lists] v (fun r' => r' = r) := by
  obtain ⟨a, b, ⟨⟩⟩ := v
  obtain ⟨h, rfl⟩ := h
  exact Eq.mpr (eq_words_Lists a b _) (words_Lists.ok _ a b h rfl)
theorem ctr_words_Lists : CtrOk Tryd.prog 47 c_words_Lists gl := ⟨⟨_, Tryd.func47, by kernel_rfl, by kernel_rfl⟩, fun H v r h => mk_ok _ (fs_words_Lists) (an := an_words_Lists) (outs := [O_words_Lists]) Tryd.func47 (by decide) (vc_words_Lists H v r h)⟩
abbrev I_rectoref24_Lists : Pat := { slots := [(0, .ce (.v (.sl .str))), (1, .ce (.v (.sl .str)))], ents := [] }
abbrev O_rectoref24_Lists : Pat := { slots := [(0, .ce (.v (.sl (.pair (.int .i64) .str))))], ents := [] }
def c_rectoref24_Lists : Ctr := { k0 := 0, inp := I_rectoref24_Lists, body := fun v => .need (Sp.listsP.pre v.1 v.2.1) (.ret ⟨O_rectoref24_Lists, ((Sp.listsP v.1 v.2.1), ())⟩), ex := 0 }
def an_rectoref24_Lists : Ann := [(6, { slots := [(0, .ce (.v (.sl .str))), (1, .ce (.v (.sl .str))), (5, .ce (.os 0)), (6, .ce (.os 1)), (7, .ce (.v (.int .i64))), (8, .ce (.v (.int .i64))), (9, .ce (.v (.int .i64)))], ents := [.row 104 (.pair (.int .i64) (.pair (.int .i64) .bool)), .row 77 (.pair (.int .i64) .str)] }), (11, { slots := [(0, .ce (.v (.sl .str))), (1, .ce (.v (.sl .str))), (5, .ce (.os 0)), (6, .ce (.os 1)), (7, .ce (.v (.int .i64))), (8, .ce (.v (.int .i64))), (9, .ce (.v (.int .i64))), (10, .ce (.ptr 2 0))], ents := [.row 104 (.pair (.int .i64) (.pair (.int .i64) .bool)), .row 77 (.pair (.int .i64) .str), .box 104 [.v (.int .i64), .v (.int .i64), .v .bool]] }), (14, { slots := [(0, .ce (.v (.sl .str))), (1, .ce (.v (.sl .str))), (5, .ce (.os 0)), (6, .ce (.os 1)), (7, .ce (.v (.int .i64))), (8, .ce (.v (.int .i64))), (9, .ce (.v (.int .i64))), (10, .ce (.ptr 2 0))], ents := [.row 104 (.pair (.int .i64) (.pair (.int .i64) .bool)), .row 77 (.pair (.int .i64) .str), .box 104 [.v (.int .i64), .v (.int .i64), .v .bool]] })]
def cx_rectoref24_Lists : Cx := mkCx [(71, [c_rectoref20_Line])]
theorem eq_rectoref24_Lists (a : (List Str)) (b : (List Str)) (R : ((p : Pat) × p.V) → Prop) : fnVc (cx_rectoref24_Lists) an_rectoref24_Lists 0 Tryd.f48 I_rectoref24_Lists [O_rectoref24_Lists] (a, b, ()) R = rectoref24_Lists.vc (fun y0 => R ⟨O_rectoref24_Lists, (y0, ())⟩) a b := by kernel_rfl
theorem fs_rectoref24_Lists : CtrsOk Tryd.prog [(71, [c_rectoref20_Line])] gl := ⟨ctr1 (ctr_rectoref20_Line), trivial⟩
theorem vc_rectoref24_Lists (H : Nat → Entry) (v : c_rectoref24_Lists.inp.V) (r : (p : Pat) × p.V) (h : (c_rectoref24_Lists.body v).Sel H r) : fnVc (cx_rectoref24_Lists) an_rectoref24_Lists 0 Tryd.f48 c_rectoref24_Lists.inp [O_rectoref24_Lists] v (fun r' => r' = r) := by
  obtain ⟨a, b, ⟨⟩⟩ := v
  obtain ⟨h, rfl⟩ := h
  exact Eq.mpr (eq_rectoref24_Lists a b _) (rectoref24_Lists.ok _ a b h rfl)
theorem ctr_rectoref24_Lists : CtrOk Tryd.prog 48 c_rectoref24_Lists gl := ⟨⟨_, Tryd.func48, by kernel_rfl, by kernel_rfl⟩, fun H v r h => mk_ok _ (fs_rectoref24_Lists) (an := an_rectoref24_Lists) (outs := [O_rectoref24_Lists]) Tryd.func48 (by decide) (vc_rectoref24_Lists H v r h)⟩
abbrev I_words_melted : Pat := { slots := [(0, .ce (.v (.sl (.pair (.int .i64) .str))))], ents := [] }
abbrev O_words_melted : Pat := { slots := [(0, .ce (.v (.sl (.pair (.int .i64) .str))))], ents := [] }
def c_words_melted : Ctr := { k0 := 0, inp := I_words_melted, body := fun v => .need (Sp.melted.pre v.1) (.ret ⟨O_words_melted, ((Sp.melted v.1), ())⟩), ex := 0 }
def an_words_melted : Ann := [(3, { slots := [(3, .ce (.os 0)), (7, .ce (.v (.sl (.pair (.int .i64) .str)))), (8, .ce (.v (.int .i64))), (9, .ce (.v (.int .i64)))], ents := [.row 72 (.pair (.int .i64) .str)] })]
def cx_words_melted : Cx := mkCx []
theorem eq_words_melted (l : (List (Int × Str))) (R : ((p : Pat) × p.V) → Prop) : fnVc (cx_words_melted) an_words_melted 0 Tryd.f65 I_words_melted [O_words_melted] (l, ()) R = words_melted.vc (fun y0 => R ⟨O_words_melted, (y0, ())⟩) l := by kernel_rfl
theorem fs_words_melted : CtrsOk Tryd.prog [] gl := trivial
theorem vc_words_melted (H : Nat → Entry) (v : c_words_melted.inp.V) (r : (p : Pat) × p.V) (h : (c_words_melted.body v).Sel H r) : fnVc (cx_words_melted) an_words_melted 0 Tryd.f65 c_words_melted.inp [O_words_melted] v (fun r' => r' = r) := by
  obtain ⟨l, ⟨⟩⟩ := v
  obtain ⟨h, rfl⟩ := h
  exact Eq.mpr (eq_words_melted l _) (words_melted.ok _ l h rfl)
theorem ctr_words_melted : CtrOk Tryd.prog 65 c_words_melted gl := ⟨⟨_, Tryd.func65, by kernel_rfl, by kernel_rfl⟩, fun H v r h => mk_ok _ (fs_words_melted) (an := an_words_melted) (outs := [O_words_melted]) Tryd.func65 (by decide) (vc_words_melted H v r h)⟩
abbrev I_words_Texts : Pat := { slots := [(0, .ce (.v .str)), (1, .ce (.v .str))], ents := [] }
abbrev O_words_Texts : Pat := { slots := [(0, .ce (.v (.sl (.pair (.int .i64) .str))))], ents := [] }
def c_words_Texts : Ctr := { k0 := 0, inp := I_words_Texts, body := fun v => .need (Sp.textsP.pre v.1 v.2.1) (.ret ⟨O_words_Texts, ((Sp.textsP v.1 v.2.1), ())⟩), ex := 0 }
def an_words_Texts : Ann := []
def cx_words_Texts : Cx := mkCx [(64, [c_words_Split]), (65, [c_words_melted]), (47, [c_words_Lists])]
theorem eq_words_Texts (a : Str) (b : Str) (R : ((p : Pat) × p.V) → Prop) : fnVc (cx_words_Texts) an_words_Texts 0 Tryd.f44 I_words_Texts [O_words_Texts] (a, b, ()) R = words_Texts.vc (fun y0 => R ⟨O_words_Texts, (y0, ())⟩) a b := by kernel_rfl
theorem fs_words_Texts : CtrsOk Tryd.prog [(64, [c_words_Split]), (65, [c_words_melted]), (47, [c_words_Lists])] gl := ⟨ctr1 (ctr_words_Split), ctr1 (ctr_words_melted), ctr1 (ctr_words_Lists), trivial⟩
theorem vc_words_Texts (H : Nat → Entry) (v : c_words_Texts.inp.V) (r : (p : Pat) × p.V) (h : (c_words_Texts.body v).Sel H r) : fnVc (cx_words_Texts) an_words_Texts 0 Tryd.f44 c_words_Texts.inp [O_words_Texts] v (fun r' => r' = r) := by
  obtain ⟨a, b, ⟨⟩⟩ := v
  obtain ⟨h, rfl⟩ := h
  exact Eq.mpr (eq_words_Texts a b _) (words_Texts.ok _ a b h rfl)
theorem ctr_words_Texts : CtrOk Tryd.prog 44 c_words_Texts gl := ⟨⟨_, Tryd.func44, by kernel_rfl, by kernel_rfl⟩, fun H v r h => mk_ok _ (fs_words_Texts) (an := an_words_Texts) (outs := [O_words_Texts]) Tryd.func44 (by decide) (vc_words_Texts H v r h)⟩
abbrev I_words_but_1 : Pat := { slots := [(0, .ag (.pair (.int .i64) .str)), (1, .ce (.ptr 0 0))], ents := [.box 3 [.v (.int .i64)]] }
abbrev O_words_but_1 : Pat := { slots := [(0, .ce (.v .str))], ents := [.box 3 [.v (.int .i64)]] }
def c_words_but_1 : Ctr := { k0 := 1, inp := I_words_but_1, body := fun v => .ret ⟨O_words_but_1, (Sp.butF v.2.1 v.1, v.2.1, ())⟩, ex := 0 }
def an_words_but_1 : Ann := []
def cx_words_but_1 : Cx := mkCx []
theorem eq_words_but_1 (p : (Int × Str)) (k : Int) (R : ((p : Pat) × p.V) → Prop) : fnVc (cx_words_but_1) an_words_but_1 1 Tryd.f86 I_words_but_1 [O_words_but_1] (p, k, ()) R = words_but_1.vc (fun y0 y1 => R ⟨O_words_but_1, (y0, y1, ())⟩) p k := by kernel_rfl
theorem fs_words_but_1 : CtrsOk Tryd.prog [] gl := trivial
theorem vc_words_but_1 (H : Nat → Entry) (v : c_words_but_1.inp.V) (r : (p : Pat) × p.V) (h : (c_words_but_1.body v).Sel H r) : fnVc (cx_words_but_1) an_words_but_1 1 Tryd.f86 c_words_but_1.inp [O_words_but_1] v (fun r' => r' = r) := by
  obtain ⟨p, k, ⟨⟩⟩ := v
  obtain rfl := h
  exact Eq.mpr (eq_words_but_1 p k _) (words_but_1.ok _ p k  rfl)
theorem ctr_words_but_1 : CtrOk Tryd.prog 86 c_words_but_1 gl := ⟨⟨_, Tryd.func86, by kernel_rfl, by kernel_rfl⟩, fun H v r h => mk_ok _ (fs_words_but_1) (an := an_words_but_1) (outs := [O_words_but_1]) Tryd.func86 (by decide) (vc_words_but_1 H v r h)⟩
abbrev I_words_but : Pat := { slots := [(0, .ce (.v (.int .i64)))], ents := [] }
abbrev O_words_but : Pat := { slots := [(0, .ce (.fn 86 [] [0]))], ents := [.box 3 [.v (.int .i64)]] }
def c_words_but : Ctr := { k0 := 0, inp := I_words_but, body := fun v => .ret ⟨O_words_but, (v.1, ())⟩, ex := 0 }
def an_words_but : Ann := []
def cx_words_but : Cx := mkCx []
theorem eq_words_but (k : Int) (R : ((p : Pat) × p.V) → Prop) : fnVc (cx_words_but) an_words_but 0 Tryd.f68 I_words_but [O_words_but] (k, ()) R = words_but.vc (fun y0 => R ⟨O_words_but, (y0, ())⟩) k := by kernel_rfl
theorem fs_words_but : CtrsOk Tryd.prog [] gl := trivial
theorem vc_words_but (H : Nat → Entry) (v : c_words_but.inp.V) (r : (p : Pat) × p.V) (h : (c_words_but.body v).Sel H r) : fnVc (cx_words_but) an_words_but 0 Tryd.f68 c_words_but.inp [O_words_but] v (fun r' => r' = r) := by
  obtain ⟨k, ⟨⟩⟩ := v
  obtain rfl := h
  exact Eq.mpr (eq_words_but k _) (words_but.ok _ k  rfl)
theorem ctr_words_but : CtrOk Tryd.prog 68 c_words_but gl := ⟨⟨_, Tryd.func68, by kernel_rfl, by kernel_rfl⟩, fun H v r h => mk_ok _ (fs_words_but) (an := an_words_but) (outs := [O_words_but]) Tryd.func68 (by decide) (vc_words_but H v r h)⟩
abbrev I_words_Marked_1 : Pat := { slots := [(0, .ag (.pair (.int .i64) .str))], ents := [] }
abbrev O_words_Marked_1 : Pat := { slots := [(0, .ce (.v .str))], ents := [] }
def c_words_Marked_1 : Ctr := { k0 := 0, inp := I_words_Marked_1, body := fun v => .need (Sp.markF.pre v.1) (.ret ⟨O_words_Marked_1, ((Sp.markF v.1), ())⟩), ex := 0 }
def an_words_Marked_1 : Ann := []
def cx_words_Marked_1 : Cx := mkCx []
theorem eq_words_Marked_1 (p : (Int × Str)) (R : ((p : Pat) × p.V) → Prop) : fnVc (cx_words_Marked_1) an_words_Marked_1 0 Tryd.f67 I_words_Marked_1 [O_words_Marked_1] (p, ()) R = words_Marked_1.vc (fun y0 => R ⟨O_words_Marked_1, (y0, ())⟩) p := by kernel_rfl
theorem fs_words_Marked_1 : CtrsOk Tryd.prog [] gl := trivial
theorem vc_words_Marked_1 (H : Nat → Entry) (v : c_words_Marked_1.inp.V) (r : (p : Pat) × p.V) (h : (c_words_Marked_1.body v).Sel H r) : fnVc (cx_words_Marked_1) an_words_Marked_1 0 Tryd.f67 c_words_Marked_1.inp [O_words_Marked_1] v (fun r' => r' = r) := by
  obtain ⟨p, ⟨⟩⟩ := v
  obtain ⟨h, rfl⟩ := h
  exact Eq.mpr (eq_words_Marked_1 p _) (words_Marked_1.ok _ p h rfl)
theorem ctr_words_Marked_1 : CtrOk Tryd.prog 67 c_words_Marked_1 gl := ⟨⟨_, Tryd.func67, by kernel_rfl, by kernel_rfl⟩, fun H v r h => mk_ok _ (fs_words_Marked_1) (an := an_words_Marked_1) (outs := [O_words_Marked_1]) Tryd.func67 (by decide) (vc_words_Marked_1 H v r h)⟩
abbrev I_words_told : Pat := { slots := [(0, .ce (.v (.sl (.pair (.int .i64) .str)))), (1, .ce (.fn 86 [] [0]))], ents := [.box 3 [.v (.int .i64)]] }
abbrev O_words_told : Pat := { slots := [(0, .ce (.v .str))], ents := [.box 3 [.v (.int .i64)]] }
def c_words_told : Ctr := { k0 := 1, inp := I_words_told, body := fun v => .need (Sp.toldK.pre v.1 v.2.1) (.ret ⟨O_words_told, (Sp.toldK v.1 v.2.1, v.2.1, ())⟩), ex := 0 }
def an_words_told : Ann := [(3, { slots := [(1, .ce (.fn 86 [] [0])), (5, .ce (.ptr 1 0)), (8, .ce (.v (.sl (.pair (.int .i64) .str)))), (9, .ce (.v (.int .i64))), (10, .ce (.v (.int .i64)))], ents := [.box 3 [.v (.int .i64)], .box 50 [.pn 1, .os 2], .row 5 (.int .u8)] })]
def cx_words_told : Cx := mkCx [(31, [c_strings_Builder_WriteString, c_writer_WriteString]), (30, [c_strings_Builder_String, c_writer_String]), (86, [c_words_but_1])]
theorem eq_words_told (l : (List (Int × Str))) (k : Int) (R : ((p : Pat) × p.V) → Prop) : fnVc (cx_words_told) an_words_told 1 Tryd.f66 I_words_told [O_words_told] (l, k, ()) R = words_told.vc (fun y0 y1 => R ⟨O_words_told, (y0, y1, ())⟩) l k := by kernel_rfl
theorem fs_words_told : CtrsOk Tryd.prog [(31, [c_strings_Builder_WriteString, c_writer_WriteString]), (30, [c_strings_Builder_String, c_writer_String]), (86, [c_words_but_1])] gl := ⟨(ctrC (ctr_strings_Builder_WriteString) (ctr1 (ctr_writer_WriteString))), (ctrC (ctr_strings_Builder_String) (ctr1 (ctr_writer_String))), ctr1 (ctr_words_but_1), trivial⟩
theorem vc_words_told (H : Nat → Entry) (v : c_words_told.inp.V) (r : (p : Pat) × p.V) (h : (c_words_told.body v).Sel H r) : fnVc (cx_words_told) an_words_told 1 Tryd.f66 c_words_told.inp [O_words_told] v (fun r' => r' = r) := by
  obtain ⟨l, k, ⟨⟩⟩ := v
  obtain ⟨h, rfl⟩ := h
  exact Eq.mpr (eq_words_told l k _) (words_told.ok _ l k h rfl)
theorem ctr_words_told : CtrOk Tryd.prog 66 c_words_told gl := ⟨⟨_, Tryd.func66, by kernel_rfl, by kernel_rfl⟩, fun H v r h => mk_ok _ (fs_words_told) (an := an_words_told) (outs := [O_words_told]) Tryd.func66 (by decide) (vc_words_told H v r h)⟩
abbrev I_words_told_m : Pat := { slots := [(0, .ce (.v (.sl (.pair (.int .i64) .str)))), (1, .ce (.fn 67 [] []))], ents := [] }
abbrev O_words_told_m : Pat := { slots := [(0, .ce (.v .str))], ents := [] }
def c_words_told_m : Ctr := { k0 := 0, inp := I_words_told_m, body := fun v => .need (Sp.marks.pre v.1) (.ret ⟨O_words_told_m, (Sp.marks v.1, ())⟩), ex := 0 }
def an_words_told_m : Ann := [(3, { slots := [(1, .ce (.fn 67 [] [])), (5, .ce (.ptr 0 0)), (8, .ce (.v (.sl (.pair (.int .i64) .str)))), (9, .ce (.v (.int .i64))), (10, .ce (.v (.int .i64)))], ents := [.box 50 [.pn 0, .os 1], .row 5 (.int .u8)] })]
def cx_words_told_m : Cx := mkCx [(31, [c_strings_Builder_WriteString, c_writer_WriteString]), (30, [c_strings_Builder_String, c_writer_String]), (67, [c_words_Marked_1])]
theorem eq_words_told_m (l : (List (Int × Str))) (R : ((p : Pat) × p.V) → Prop) : fnVc (cx_words_told_m) an_words_told_m 0 Tryd.f66 I_words_told_m [O_words_told_m] (l, ()) R = words_told_m.vc (fun y0 => R ⟨O_words_told_m, (y0, ())⟩) l := by kernel_rfl
theorem fs_words_told_m : CtrsOk Tryd.prog [(31, [c_strings_Builder_WriteString, c_writer_WriteString]), (30, [c_strings_Builder_String, c_writer_String]), (67, [c_words_Marked_1])] gl := ⟨(ctrC (ctr_strings_Builder_WriteString) (ctr1 (ctr_writer_WriteString))), (ctrC (ctr_strings_Builder_String) (ctr1 (ctr_writer_String))), ctr1 (ctr_words_Marked_1), trivial⟩
theorem vc_words_told_m (H : Nat → Entry) (v : c_words_told_m.inp.V) (r : (p : Pat) × p.V) (h : (c_words_told_m.body v).Sel H r) : fnVc (cx_words_told_m) an_words_told_m 0 Tryd.f66 c_words_told_m.inp [O_words_told_m] v (fun r' => r' = r) := by
  obtain ⟨l, ⟨⟩⟩ := v
  obtain ⟨h, rfl⟩ := h
  exact Eq.mpr (eq_words_told_m l _) (words_told_m.ok _ l h rfl)
theorem ctr_words_told_m : CtrOk Tryd.prog 66 c_words_told_m gl := ⟨⟨_, Tryd.func66, by kernel_rfl, by kernel_rfl⟩, fun H v r h => mk_ok _ (fs_words_told_m) (an := an_words_told_m) (outs := [O_words_told_m]) Tryd.func66 (by decide) (vc_words_told_m H v r h)⟩
abbrev I_words_Old : Pat := { slots := [(0, .ce (.v (.sl (.pair (.int .i64) .str))))], ents := [] }
abbrev O_words_Old : Pat := { slots := [(0, .ce (.v .str))], ents := [] }
def c_words_Old : Ctr := { k0 := 0, inp := I_words_Old, body := fun v => .need (Sp.oldP.pre v.1) (.ret ⟨O_words_Old, ((Sp.oldP v.1), ())⟩), ex := 0 }
def an_words_Old : Ann := []
def cx_words_Old : Cx := mkCx [(68, [c_words_but]), (66, [c_words_told, c_words_told_m])]
theorem eq_words_Old (l : (List (Int × Str))) (R : ((p : Pat) × p.V) → Prop) : fnVc (cx_words_Old) an_words_Old 0 Tryd.f46 I_words_Old [O_words_Old] (l, ()) R = words_Old.vc (fun y0 => R ⟨O_words_Old, (y0, ())⟩) l := by kernel_rfl
theorem fs_words_Old : CtrsOk Tryd.prog [(68, [c_words_but]), (66, [c_words_told, c_words_told_m])] gl := ⟨ctr1 (ctr_words_but), (ctrC (ctr_words_told) (ctr1 (ctr_words_told_m))), trivial⟩
theorem vc_words_Old (H : Nat → Entry) (v : c_words_Old.inp.V) (r : (p : Pat) × p.V) (h : (c_words_Old.body v).Sel H r) : fnVc (cx_words_Old) an_words_Old 0 Tryd.f46 c_words_Old.inp [O_words_Old] v (fun r' => r' = r) := by
  obtain ⟨l, ⟨⟩⟩ := v
  obtain ⟨h, rfl⟩ := h
  exact Eq.mpr (eq_words_Old l _) (words_Old.ok _ l h rfl)
theorem ctr_words_Old : CtrOk Tryd.prog 46 c_words_Old gl := ⟨⟨_, Tryd.func46, by kernel_rfl, by kernel_rfl⟩, fun H v r h => mk_ok _ (fs_words_Old) (an := an_words_Old) (outs := [O_words_Old]) Tryd.func46 (by decide) (vc_words_Old H v r h)⟩
abbrev I_words_Marked : Pat := { slots := [(0, .ce (.v (.sl (.pair (.int .i64) .str))))], ents := [] }
abbrev O_words_Marked : Pat := { slots := [(0, .ce (.v .str))], ents := [] }
def c_words_Marked : Ctr := { k0 := 0, inp := I_words_Marked, body := fun v => .need (Sp.marks.pre v.1) (.ret ⟨O_words_Marked, ((Sp.marks v.1), ())⟩), ex := 0 }
def an_words_Marked : Ann := []
def cx_words_Marked : Cx := mkCx [(66, [c_words_told, c_words_told_m]), (67, [c_words_Marked_1])]
theorem eq_words_Marked (l : (List (Int × Str))) (R : ((p : Pat) × p.V) → Prop) : fnVc (cx_words_Marked) an_words_Marked 0 Tryd.f45 I_words_Marked [O_words_Marked] (l, ()) R = words_Marked.vc (fun y0 => R ⟨O_words_Marked, (y0, ())⟩) l := by kernel_rfl
theorem fs_words_Marked : CtrsOk Tryd.prog [(66, [c_words_told, c_words_told_m]), (67, [c_words_Marked_1])] gl := ⟨(ctrC (ctr_words_told) (ctr1 (ctr_words_told_m))), ctr1 (ctr_words_Marked_1), trivial⟩
theorem vc_words_Marked (H : Nat → Entry) (v : c_words_Marked.inp.V) (r : (p : Pat) × p.V) (h : (c_words_Marked.body v).Sel H r) : fnVc (cx_words_Marked) an_words_Marked 0 Tryd.f45 c_words_Marked.inp [O_words_Marked] v (fun r' => r' = r) := by
  obtain ⟨l, ⟨⟩⟩ := v
  obtain ⟨h, rfl⟩ := h
  exact Eq.mpr (eq_words_Marked l _) (words_Marked.ok _ l h rfl)
theorem ctr_words_Marked : CtrOk Tryd.prog 45 c_words_Marked gl := ⟨⟨_, Tryd.func45, by kernel_rfl, by kernel_rfl⟩, fun H v r h => mk_ok _ (fs_words_Marked) (an := an_words_Marked) (outs := [O_words_Marked]) Tryd.func45 (by decide) (vc_words_Marked H v r h)⟩
abbrev I_rectolaw24_abc : Pat := { slots := [], ents := [] }
abbrev O_rectolaw24_abc : Pat := { slots := [(0, .ce (.v .bool))], ents := [] }
def c_rectolaw24_abc : Ctr := { k0 := 0, inp := I_rectolaw24_abc, body := fun v => .ret ⟨O_rectolaw24_abc, ((Sp.tt), ())⟩, ex := 0 }
def an_rectolaw24_abc : Ann := []
def cx_rectolaw24_abc : Cx := mkCx [(44, [c_words_Texts]), (45, [c_words_Marked]), (46, [c_words_Old])]
theorem eq_rectolaw24_abc  (R : ((p : Pat) × p.V) → Prop) : fnVc (cx_rectolaw24_abc) an_rectolaw24_abc 0 Tryd.f24 I_rectolaw24_abc [O_rectolaw24_abc] (()) R = rectolaw24_abc.vc (fun y0 => R ⟨O_rectolaw24_abc, (y0, ())⟩)  := by kernel_rfl
theorem fs_rectolaw24_abc : CtrsOk Tryd.prog [(44, [c_words_Texts]), (45, [c_words_Marked]), (46, [c_words_Old])] gl := ⟨ctr1 (ctr_words_Texts), ctr1 (ctr_words_Marked), ctr1 (ctr_words_Old), trivial⟩
theorem vc_rectolaw24_abc (H : Nat → Entry) (v : c_rectolaw24_abc.inp.V) (r : (p : Pat) × p.V) (h : (c_rectolaw24_abc.body v).Sel H r) : fnVc (cx_rectolaw24_abc) an_rectolaw24_abc 0 Tryd.f24 c_rectolaw24_abc.inp [O_rectolaw24_abc] v (fun r' => r' = r) := by
  obtain ⟨⟩ := v
  obtain rfl := h
  exact Eq.mpr (eq_rectolaw24_abc  _) (rectolaw24_abc.ok _   rfl)
theorem ctr_rectolaw24_abc : CtrOk Tryd.prog 24 c_rectolaw24_abc gl := ⟨⟨_, Tryd.func24, by kernel_rfl, by kernel_rfl⟩, fun H v r h => mk_ok _ (fs_rectolaw24_abc) (an := an_rectolaw24_abc) (outs := [O_rectolaw24_abc]) Tryd.func24 (by decide) (vc_rectolaw24_abc H v r h)⟩
abbrev I_words_Pages : Pat := { slots := [(0, .ce (.v (.sl .node))), (1, .ce (.v (.sl .node)))], ents := [] }
abbrev O_words_Pages : Pat := { slots := [(0, .ce (.v (.sl .str)))], ents := [] }
def c_words_Pages : Ctr := { k0 := 0, inp := I_words_Pages, body := fun v => .need (Sp.pagesP.pre v.1 v.2.1) (.ret ⟨O_words_Pages, ((Sp.pagesP v.1 v.2.1), ())⟩), ex := 0 }
def an_words_Pages : Ann := [(3, { slots := [(5, .ce (.os 0)), (12, .ce (.v (.sl (.pair (.int .i64) .str)))), (13, .ce (.v (.int .i64))), (14, .ce (.v (.int .i64)))], ents := [.row 9 .str] })]
def cx_words_Pages : Cx := mkCx [(17, [c_print_Lines]), (47, [c_words_Lists])]
theorem eq_words_Pages (a : (List Vi.Node)) (b : (List Vi.Node)) (R : ((p : Pat) × p.V) → Prop) : fnVc (cx_words_Pages) an_words_Pages 0 Tryd.f25 I_words_Pages [O_words_Pages] (a, b, ()) R = words_Pages.vc (fun y0 => R ⟨O_words_Pages, (y0, ())⟩) a b := by kernel_rfl
theorem fs_words_Pages : CtrsOk Tryd.prog [(17, [c_print_Lines]), (47, [c_words_Lists])] gl := ⟨ctr1 (ctr_print_Lines), ctr1 (ctr_words_Lists), trivial⟩
theorem vc_words_Pages (H : Nat → Entry) (v : c_words_Pages.inp.V) (r : (p : Pat) × p.V) (h : (c_words_Pages.body v).Sel H r) : fnVc (cx_words_Pages) an_words_Pages 0 Tryd.f25 c_words_Pages.inp [O_words_Pages] v (fun r' => r' = r) := by
  obtain ⟨a, b, ⟨⟩⟩ := v
  obtain ⟨h, rfl⟩ := h
  exact Eq.mpr (eq_words_Pages a b _) (words_Pages.ok _ a b h rfl)
theorem ctr_words_Pages : CtrOk Tryd.prog 25 c_words_Pages gl := ⟨⟨_, Tryd.func25, by kernel_rfl, by kernel_rfl⟩, fun H v r h => mk_ok _ (fs_words_Pages) (an := an_words_Pages) (outs := [O_words_Pages]) Tryd.func25 (by decide) (vc_words_Pages H v r h)⟩
abbrev I_rectoref24_Pages : Pat := { slots := [(0, .ce (.v (.sl .node))), (1, .ce (.v (.sl .node)))], ents := [] }
abbrev O_rectoref24_Pages : Pat := { slots := [(0, .ce (.v (.sl .str)))], ents := [] }
def c_rectoref24_Pages : Ctr := { k0 := 0, inp := I_rectoref24_Pages, body := fun v => .need (Sp.pagesP.pre v.1 v.2.1) (.ret ⟨O_rectoref24_Pages, ((Sp.pagesP v.1 v.2.1), ())⟩), ex := 0 }
def an_rectoref24_Pages : Ann := [(3, { slots := [(5, .ce (.os 0)), (12, .ce (.v (.sl (.pair (.int .i64) .str)))), (13, .ce (.v (.int .i64))), (14, .ce (.v (.int .i64)))], ents := [.row 9 .str] })]
def cx_rectoref24_Pages : Cx := mkCx [(18, [c_rectoref13_Lines]), (48, [c_rectoref24_Lists])]
theorem eq_rectoref24_Pages (a : (List Vi.Node)) (b : (List Vi.Node)) (R : ((p : Pat) × p.V) → Prop) : fnVc (cx_rectoref24_Pages) an_rectoref24_Pages 0 Tryd.f26 I_rectoref24_Pages [O_rectoref24_Pages] (a, b, ()) R = rectoref24_Pages.vc (fun y0 => R ⟨O_rectoref24_Pages, (y0, ())⟩) a b := by kernel_rfl
theorem fs_rectoref24_Pages : CtrsOk Tryd.prog [(18, [c_rectoref13_Lines]), (48, [c_rectoref24_Lists])] gl := ⟨ctr1 (ctr_rectoref13_Lines), ctr1 (ctr_rectoref24_Lists), trivial⟩
theorem vc_rectoref24_Pages (H : Nat → Entry) (v : c_rectoref24_Pages.inp.V) (r : (p : Pat) × p.V) (h : (c_rectoref24_Pages.body v).Sel H r) : fnVc (cx_rectoref24_Pages) an_rectoref24_Pages 0 Tryd.f26 c_rectoref24_Pages.inp [O_rectoref24_Pages] v (fun r' => r' = r) := by
  obtain ⟨a, b, ⟨⟩⟩ := v
  obtain ⟨h, rfl⟩ := h
  exact Eq.mpr (eq_rectoref24_Pages a b _) (rectoref24_Pages.ok _ a b h rfl)
theorem ctr_rectoref24_Pages : CtrOk Tryd.prog 26 c_rectoref24_Pages gl := ⟨⟨_, Tryd.func26, by kernel_rfl, by kernel_rfl⟩, fun H v r h => mk_ok _ (fs_rectoref24_Pages) (an := an_rectoref24_Pages) (outs := [O_rectoref24_Pages]) Tryd.func26 (by decide) (vc_rectoref24_Pages H v r h)⟩
abbrev I_rectolaw24_large : Pat := { slots := [(0, .ce (.v (.sl .node)))], ents := [] }
abbrev O_rectolaw24_large : Pat := { slots := [(0, .ce (.v .bool))], ents := [] }
def c_rectolaw24_large : Ctr := { k0 := 0, inp := I_rectolaw24_large, body := fun v => .ret ⟨O_rectolaw24_large, ((Sp.large2 v.1), ())⟩, ex := 0 }
def an_rectolaw24_large : Ann := []
def cx_rectolaw24_large : Cx := mkCx [(27, [c_rectoplain_Large])]
theorem eq_rectolaw24_large (l : (List Vi.Node)) (R : ((p : Pat) × p.V) → Prop) : fnVc (cx_rectolaw24_large) an_rectolaw24_large 0 Tryd.f23 I_rectolaw24_large [O_rectolaw24_large] (l, ()) R = rectolaw24_large.vc (fun y0 => R ⟨O_rectolaw24_large, (y0, ())⟩) l := by kernel_rfl
theorem fs_rectolaw24_large : CtrsOk Tryd.prog [(27, [c_rectoplain_Large])] gl := ⟨ctr1 (ctr_rectoplain_Large), trivial⟩
theorem vc_rectolaw24_large (H : Nat → Entry) (v : c_rectolaw24_large.inp.V) (r : (p : Pat) × p.V) (h : (c_rectolaw24_large.body v).Sel H r) : fnVc (cx_rectolaw24_large) an_rectolaw24_large 0 Tryd.f23 c_rectolaw24_large.inp [O_rectolaw24_large] v (fun r' => r' = r) := by
  obtain ⟨l, ⟨⟩⟩ := v
  obtain rfl := h
  exact Eq.mpr (eq_rectolaw24_large l _) (rectolaw24_large.ok _ l  rfl)
theorem ctr_rectolaw24_large : CtrOk Tryd.prog 23 c_rectolaw24_large gl := ⟨⟨_, Tryd.func23, by kernel_rfl, by kernel_rfl⟩, fun H v r h => mk_ok _ (fs_rectolaw24_large) (an := an_rectolaw24_large) (outs := [O_rectolaw24_large]) Tryd.func23 (by decide) (vc_rectolaw24_large H v r h)⟩
abbrev I_rectolaw24_WordsPages : Pat := { slots := [(0, .ce (.v (.sl .node))), (1, .ce (.v (.sl .node)))], ents := [] }
abbrev O_rectolaw24_WordsPages : Pat := { slots := [(0, .ce (.v .bool))], ents := [] }
def c_rectolaw24_WordsPages : Ctr := { k0 := 0, inp := I_rectolaw24_WordsPages, body := fun v => .need (Sz (.sl .node) v.1 ∧ Sz (.sl .node) v.2.1) (.ret ⟨O_rectolaw24_WordsPages, ((Sp.tt), ())⟩), ex := 0 }
def an_rectolaw24_WordsPages : Ann := []
def cx_rectolaw24_WordsPages : Cx := mkCx [(23, [c_rectolaw24_large]), (24, [c_rectolaw24_abc]), (25, [c_words_Pages]), (26, [c_rectoref24_Pages]), (16, [c_rectoplain_Texts])]
theorem eq_rectolaw24_WordsPages (a : (List Vi.Node)) (b : (List Vi.Node)) (R : ((p : Pat) × p.V) → Prop) : fnVc (cx_rectolaw24_WordsPages) an_rectolaw24_WordsPages 0 Tryd.f8 I_rectolaw24_WordsPages [O_rectolaw24_WordsPages] (a, b, ()) R = rectolaw24_WordsPages.vc (fun y0 => R ⟨O_rectolaw24_WordsPages, (y0, ())⟩) a b := by kernel_rfl
theorem fs_rectolaw24_WordsPages : CtrsOk Tryd.prog [(23, [c_rectolaw24_large]), (24, [c_rectolaw24_abc]), (25, [c_words_Pages]), (26, [c_rectoref24_Pages]), (16, [c_rectoplain_Texts])] gl := ⟨ctr1 (ctr_rectolaw24_large), ctr1 (ctr_rectolaw24_abc), ctr1 (ctr_words_Pages), ctr1 (ctr_rectoref24_Pages), ctr1 (ctr_rectoplain_Texts), trivial⟩
theorem vc_rectolaw24_WordsPages (H : Nat → Entry) (v : c_rectolaw24_WordsPages.inp.V) (r : (p : Pat) × p.V) (h : (c_rectolaw24_WordsPages.body v).Sel H r) : fnVc (cx_rectolaw24_WordsPages) an_rectolaw24_WordsPages 0 Tryd.f8 c_rectolaw24_WordsPages.inp [O_rectolaw24_WordsPages] v (fun r' => r' = r) := by
  obtain ⟨a, b, ⟨⟩⟩ := v
  obtain ⟨h, rfl⟩ := h
  exact Eq.mpr (eq_rectolaw24_WordsPages a b _) (rectolaw24_WordsPages.ok _ a b h rfl)
theorem ctr_rectolaw24_WordsPages : CtrOk Tryd.prog 8 c_rectolaw24_WordsPages gl := ⟨⟨_, Tryd.func8, by kernel_rfl, by kernel_rfl⟩, fun H v r h => mk_ok _ (fs_rectolaw24_WordsPages) (an := an_rectolaw24_WordsPages) (outs := [O_rectolaw24_WordsPages]) Tryd.func8 (by decide) (vc_rectolaw24_WordsPages H v r h)⟩
end Vs
