/- Functions held against what they tell. Written by a program of this session. -/
import Derived.Test.YtgfpmlildhbboaaPlM
import Derived.Test.YtgfpmlildhbboaaViThree
import Derived.Test.YtgfpmlildhbboaaFnmB
set_option linter.unnecessarySimpa false
set_option linter.unusedVariables false
set_option linter.unusedSectionVars false
set_option linter.unusedSimpArgs false
set_option autoImplicit false
set_option linter.unusedVariables false
set_option maxRecDepth 100000
attribute [local irreducible] Vi.fnVc
namespace Vs
open Go Vi Go.Proofs
abbrev I_strings_Builder_WriteString : Pat := { slots := [(0, .ce (.ptr 0 0)), (1, .ce (.v .str))], ents := [.box 112 [.pn 0, .os 1], .row 5 (.int .u8)] }
abbrev O_strings_Builder_WriteString : Pat := { slots := [(0, .ce (.v (.int .i64))), (1, .ce .z)], ents := [.box 112 [.pn 0, .os 1], .row 5 (.int .u8)] }
def c_strings_Builder_WriteString : Ctr := { k0 := 1, inp := I_strings_Builder_WriteString, body := fun v => .need (Sp.wr.pre v.2.1 v.1) (.ret ⟨O_strings_Builder_WriteString, ((v.1.length : Int), Sp.wr v.2.1 v.1, ())⟩), ex := 0 }
def an_strings_Builder_WriteString : Ann := []
def cx_strings_Builder_WriteString : Cx := mkCx []
theorem eq_strings_Builder_WriteString (s : Str) (x : (List Int)) (R : ((p : Pat) × p.V) → Prop) : fnVc (cx_strings_Builder_WriteString) an_strings_Builder_WriteString 1 Try.f64 I_strings_Builder_WriteString [O_strings_Builder_WriteString] (s, x, ()) R = strings_Builder_WriteString.vc (fun y0 y1 => R ⟨O_strings_Builder_WriteString, (y0, y1, ())⟩) s x := by kernel_rfl
theorem fs_strings_Builder_WriteString : CtrsOk Try.prog [] := trivial
theorem vc_strings_Builder_WriteString (H : Nat → Entry) (v : c_strings_Builder_WriteString.inp.V) (r : (p : Pat) × p.V) (h : (c_strings_Builder_WriteString.body v).Sel H r) : fnVc (cx_strings_Builder_WriteString) an_strings_Builder_WriteString 1 Try.f64 c_strings_Builder_WriteString.inp [O_strings_Builder_WriteString] v (fun r' => r' = r) := by
  obtain ⟨s, x, ⟨⟩⟩ := v
  obtain ⟨h, rfl⟩ := h
  exact Eq.mpr (eq_strings_Builder_WriteString s x _) (strings_Builder_WriteString.ok _ s x h rfl)
theorem ctr_strings_Builder_WriteString : CtrOk Try.prog 64 c_strings_Builder_WriteString := ⟨⟨_, Try.func64, by kernel_rfl, by kernel_rfl⟩, fun H v r h => mk_ok _ (fs_strings_Builder_WriteString) (an := an_strings_Builder_WriteString) (outs := [O_strings_Builder_WriteString]) Try.func64 (by decide) (vc_strings_Builder_WriteString H v r h)⟩
abbrev I_strings_Builder_String : Pat := { slots := [(0, .ce (.ptr 0 0))], ents := [.box 112 [.pn 0, .os 1], .row 5 (.int .u8)] }
abbrev O_strings_Builder_String : Pat := { slots := [(0, .ce (.v .str))], ents := [.box 112 [.pn 0, .z]] }
def c_strings_Builder_String : Ctr := { k0 := 1, inp := I_strings_Builder_String, body := fun v => .ret ⟨O_strings_Builder_String, (bytesOf v.1, ())⟩, ex := 0 }
def an_strings_Builder_String : Ann := []
def cx_strings_Builder_String : Cx := mkCx []
theorem eq_strings_Builder_String (x : (List Int)) (R : ((p : Pat) × p.V) → Prop) : fnVc (cx_strings_Builder_String) an_strings_Builder_String 1 Try.f67 I_strings_Builder_String [O_strings_Builder_String] (x, ()) R = strings_Builder_String.vc (fun y0 => R ⟨O_strings_Builder_String, (y0, ())⟩) x := by kernel_rfl
theorem fs_strings_Builder_String : CtrsOk Try.prog [] := trivial
theorem vc_strings_Builder_String (H : Nat → Entry) (v : c_strings_Builder_String.inp.V) (r : (p : Pat) × p.V) (h : (c_strings_Builder_String.body v).Sel H r) : fnVc (cx_strings_Builder_String) an_strings_Builder_String 1 Try.f67 c_strings_Builder_String.inp [O_strings_Builder_String] v (fun r' => r' = r) := by
  obtain ⟨x, ⟨⟩⟩ := v
  obtain rfl := h
  exact Eq.mpr (eq_strings_Builder_String x _) (strings_Builder_String.ok _ x  rfl)
theorem ctr_strings_Builder_String : CtrOk Try.prog 67 c_strings_Builder_String := ⟨⟨_, Try.func67, by kernel_rfl, by kernel_rfl⟩, fun H v r h => mk_ok _ (fs_strings_Builder_String) (an := an_strings_Builder_String) (outs := [O_strings_Builder_String]) Try.func67 (by decide) (vc_strings_Builder_String H v r h)⟩
abbrev I_keys_digits : Pat := { slots := [(0, .ce (.v (.int .i64)))], ents := [] }
abbrev O_keys_digits : Pat := { slots := [(0, .ce (.v .str))], ents := [] }
def r_keys_digits (nn : Nat) : Ctr := { k0 := 0, inp := I_keys_digits, body := fun v => .need (Sp.dgs.pre v.1 ∧ Sp.dgm v.1 < nn) (.ret ⟨O_keys_digits, ((Sp.dgs v.1), ())⟩), ex := 0 }
def c_keys_digits : Ctr := { k0 := 0, inp := I_keys_digits, body := fun v => .need (Sp.dgs.pre v.1) (.ret ⟨O_keys_digits, ((Sp.dgs v.1), ())⟩), ex := 0 }
def an_keys_digits : Ann := []
def cx_keys_digits (nn : Nat) : Cx := mkCx [(65, [r_keys_digits nn])]
theorem eq_keys_digits (nn : Nat) (n : Int) (R : ((p : Pat) × p.V) → Prop) : fnVc (cx_keys_digits nn) an_keys_digits 0 Try.f65 I_keys_digits [O_keys_digits] (n, ()) R = keys_digits.vc (fun y0 => R ⟨O_keys_digits, (y0, ())⟩) nn n := by kernel_rfl
theorem fs_keys_digits (nn : Nat) (ih_keys_digits : CtrOk Try.prog 65 (r_keys_digits nn)) : CtrsOk Try.prog [(65, [r_keys_digits nn])] := ⟨(ctr1 ih_keys_digits), trivial⟩
theorem grp_digits (nn : Nat) : CtrOk Try.prog 65 (r_keys_digits nn) := by
  induction nn with
  | zero => exact ⟨⟨_, Try.func65, by kernel_rfl, by kernel_rfl⟩, fun H v r h => absurd h.1.2 (Nat.not_lt_zero _)⟩
  | succ nn ih =>
  have ih_keys_digits := ih
  refine ⟨⟨_, Try.func65, by kernel_rfl, by kernel_rfl⟩, ?_⟩
  · intro H v r h
    obtain ⟨n, ⟨⟩⟩ := v
    obtain ⟨h, rfl⟩ := h
    exact mk_ok _ (fs_keys_digits nn ih_keys_digits) (an := an_keys_digits) (outs := [O_keys_digits]) Try.func65 (Nat.le_of_ble_eq_true rfl) (Eq.mpr (eq_keys_digits nn n _) (keys_digits.ok nn _ n h rfl))

theorem ctr_keys_digits : CtrOk Try.prog 65 c_keys_digits := ⟨⟨_, Try.func65, by kernel_rfl, by kernel_rfl⟩, fun H v r h => ((grp_digits (Sp.dgm v.1 + 1)).2 H v r ⟨⟨h.1, Nat.lt_succ_self _⟩, h.2⟩).body⟩
abbrev I_keys_text : Pat := { slots := [(0, .ce (.v .str))], ents := [] }
abbrev O_keys_text : Pat := { slots := [(0, .ce (.v .str))], ents := [] }
def c_keys_text : Ctr := { k0 := 0, inp := I_keys_text, body := fun v => .need (Sp.tx.pre v.1) (.ret ⟨O_keys_text, ((Sp.tx v.1), ())⟩), ex := 0 }
def an_keys_text : Ann := []
def cx_keys_text : Cx := mkCx [(65, [c_keys_digits])]
theorem eq_keys_text (s : Str) (R : ((p : Pat) × p.V) → Prop) : fnVc (cx_keys_text) an_keys_text 0 Try.f66 I_keys_text [O_keys_text] (s, ()) R = keys_text.vc (fun y0 => R ⟨O_keys_text, (y0, ())⟩) s := by kernel_rfl
theorem fs_keys_text : CtrsOk Try.prog [(65, [c_keys_digits])] := ⟨ctr1 (ctr_keys_digits), trivial⟩
theorem vc_keys_text (H : Nat → Entry) (v : c_keys_text.inp.V) (r : (p : Pat) × p.V) (h : (c_keys_text.body v).Sel H r) : fnVc (cx_keys_text) an_keys_text 0 Try.f66 c_keys_text.inp [O_keys_text] v (fun r' => r' = r) := by
  obtain ⟨s, ⟨⟩⟩ := v
  obtain ⟨h, rfl⟩ := h
  exact Eq.mpr (eq_keys_text s _) (keys_text.ok _ s h rfl)
theorem ctr_keys_text : CtrOk Try.prog 66 c_keys_text := ⟨⟨_, Try.func66, by kernel_rfl, by kernel_rfl⟩, fun H v r h => mk_ok _ (fs_keys_text) (an := an_keys_text) (outs := [O_keys_text]) Try.func66 (by decide) (vc_keys_text H v r h)⟩
abbrev I_keys_Label : Pat := { slots := [(0, .ag .node)], ents := [] }
abbrev O_keys_Label : Pat := { slots := [(0, .ce (.v .str))], ents := [] }
def c_keys_Label : Ctr := { k0 := 0, inp := I_keys_Label, body := fun v => .need (Sp.label.pre v.1) (.ret ⟨O_keys_Label, ((Sp.label v.1), ())⟩), ex := 0 }
def an_keys_Label : Ann := []
def cx_keys_Label : Cx := mkCx [(65, [c_keys_digits])]
theorem eq_keys_Label (n : Vi.Node) (R : ((p : Pat) × p.V) → Prop) : fnVc (cx_keys_Label) an_keys_Label 0 Try.f43 I_keys_Label [O_keys_Label] (n, ()) R = keys_Label.vc (fun y0 => R ⟨O_keys_Label, (y0, ())⟩) n := by kernel_rfl
theorem fs_keys_Label : CtrsOk Try.prog [(65, [c_keys_digits])] := ⟨ctr1 (ctr_keys_digits), trivial⟩
theorem vc_keys_Label (H : Nat → Entry) (v : c_keys_Label.inp.V) (r : (p : Pat) × p.V) (h : (c_keys_Label.body v).Sel H r) : fnVc (cx_keys_Label) an_keys_Label 0 Try.f43 c_keys_Label.inp [O_keys_Label] v (fun r' => r' = r) := by
  obtain ⟨n, ⟨⟩⟩ := v
  obtain ⟨h, rfl⟩ := h
  exact Eq.mpr (eq_keys_Label n _) (keys_Label.ok _ n h rfl)
theorem ctr_keys_Label : CtrOk Try.prog 43 c_keys_Label := ⟨⟨_, Try.func43, by kernel_rfl, by kernel_rfl⟩, fun H v r h => mk_ok _ (fs_keys_Label) (an := an_keys_Label) (outs := [O_keys_Label]) Try.func43 (by decide) (vc_keys_Label H v r h)⟩
abbrev I_keys_Key : Pat := { slots := [(0, .ag .node)], ents := [] }
abbrev O_keys_Key : Pat := { slots := [(0, .ce (.v .str))], ents := [] }
def r_keys_Key (nn : Nat) : Ctr := { k0 := 0, inp := I_keys_Key, body := fun v => .need (Sp.key.pre v.1 ∧ Sp.szN v.1 < nn) (.ret ⟨O_keys_Key, ((Sp.key v.1), ())⟩), ex := 0 }
def c_keys_Key : Ctr := { k0 := 0, inp := I_keys_Key, body := fun v => .need (Sp.key.pre v.1) (.ret ⟨O_keys_Key, ((Sp.key v.1), ())⟩), ex := 0 }
def an_keys_Key : Ann := [(4, { slots := [(1, .ce (.ptr 0 0)), (3, .ce (.ptr 1 0)), (30, .ce (.v (.sl (.pair .str .str)))), (31, .ce (.v (.int .i64))), (32, .ce (.v (.int .i64)))], ents := [.box 80 [.v (.int .i64), .v (.int .i64), .v .str, .v (.sl (.pair .str .str)), .v .str, .v (.sl .node)], .box 112 [.pn 1, .os 2], .row 5 (.int .u8)] }), (10, { slots := [(3, .ce (.ptr 0 0)), (51, .ce (.v (.sl .node))), (52, .ce (.v (.int .i64))), (53, .ce (.v (.int .i64)))], ents := [.box 112 [.pn 0, .os 1], .row 5 (.int .u8)] })]
def cx_keys_Key (nn : Nat) : Cx := mkCx [(65, [c_keys_digits]), (66, [c_keys_text]), (64, [c_strings_Builder_WriteString]), (42, [r_keys_Key nn]), (67, [c_strings_Builder_String])]
theorem eq_keys_Key (nn : Nat) (n : Vi.Node) (R : ((p : Pat) × p.V) → Prop) : fnVc (cx_keys_Key nn) an_keys_Key 0 Try.f42 I_keys_Key [O_keys_Key] (n, ()) R = keys_Key.vc (fun y0 => R ⟨O_keys_Key, (y0, ())⟩) nn n := by kernel_rfl
theorem fs_keys_Key (nn : Nat) (ih_keys_Key : CtrOk Try.prog 42 (r_keys_Key nn)) : CtrsOk Try.prog [(65, [c_keys_digits]), (66, [c_keys_text]), (64, [c_strings_Builder_WriteString]), (42, [r_keys_Key nn]), (67, [c_strings_Builder_String])] := ⟨(ctr1 (ctr_keys_digits)), (ctr1 (ctr_keys_text)), (ctr1 (ctr_strings_Builder_WriteString)), (ctr1 ih_keys_Key), (ctr1 (ctr_strings_Builder_String)), trivial⟩
theorem grp_key (nn : Nat) : CtrOk Try.prog 42 (r_keys_Key nn) := by
  induction nn with
  | zero => exact ⟨⟨_, Try.func42, by kernel_rfl, by kernel_rfl⟩, fun H v r h => absurd h.1.2 (Nat.not_lt_zero _)⟩
  | succ nn ih =>
  have ih_keys_Key := ih
  refine ⟨⟨_, Try.func42, by kernel_rfl, by kernel_rfl⟩, ?_⟩
  · intro H v r h
    obtain ⟨n, ⟨⟩⟩ := v
    obtain ⟨h, rfl⟩ := h
    exact mk_ok _ (fs_keys_Key nn ih_keys_Key) (an := an_keys_Key) (outs := [O_keys_Key]) Try.func42 (Nat.le_of_ble_eq_true rfl) (Eq.mpr (eq_keys_Key nn n _) (keys_Key.ok nn _ n h rfl))

theorem ctr_keys_Key : CtrOk Try.prog 42 c_keys_Key := ⟨⟨_, Try.func42, by kernel_rfl, by kernel_rfl⟩, fun H v r h => ((grp_key (Sp.szN v.1 + 1)).2 H v r ⟨⟨h.1, Nat.lt_succ_self _⟩, h.2⟩).body⟩
abbrev I_match_texts_key : Pat := { slots := [(0, .ce (.v (.sl .node))), (1, .ce (.fn 42 [] []))], ents := [] }
abbrev O_match_texts_key : Pat := { slots := [(0, .ce (.v (.sl .str)))], ents := [] }
def c_match_texts_key : Ctr := { k0 := 0, inp := I_match_texts_key, body := fun v => .need (Sp.keysOf.pre v.1) (.ret ⟨O_match_texts_key, (Sp.keysOf v.1, ())⟩), ex := 0 }
def an_match_texts_key : Ann := [(3, { slots := [(1, .ce (.fn 42 [] [])), (5, .ce (.os 0)), (8, .ce (.v (.sl .node))), (9, .ce (.v (.int .i64))), (10, .ce (.v (.int .i64)))], ents := [.row 9 .str] })]
def cx_match_texts_key : Cx := mkCx [(42, [c_keys_Key])]
theorem eq_match_texts_key (l : (List Vi.Node)) (R : ((p : Pat) × p.V) → Prop) : fnVc (cx_match_texts_key) an_match_texts_key 0 Try.f41 I_match_texts_key [O_match_texts_key] (l, ()) R = match_texts_key.vc (fun y0 => R ⟨O_match_texts_key, (y0, ())⟩) l := by kernel_rfl
theorem fs_match_texts_key : CtrsOk Try.prog [(42, [c_keys_Key])] := ⟨ctr1 (ctr_keys_Key), trivial⟩
theorem vc_match_texts_key (H : Nat → Entry) (v : c_match_texts_key.inp.V) (r : (p : Pat) × p.V) (h : (c_match_texts_key.body v).Sel H r) : fnVc (cx_match_texts_key) an_match_texts_key 0 Try.f41 c_match_texts_key.inp [O_match_texts_key] v (fun r' => r' = r) := by
  obtain ⟨l, ⟨⟩⟩ := v
  obtain ⟨h, rfl⟩ := h
  exact Eq.mpr (eq_match_texts_key l _) (match_texts_key.ok _ l h rfl)
theorem ctr_match_texts_key : CtrOk Try.prog 41 c_match_texts_key := ⟨⟨_, Try.func41, by kernel_rfl, by kernel_rfl⟩, fun H v r h => mk_ok _ (fs_match_texts_key) (an := an_match_texts_key) (outs := [O_match_texts_key]) Try.func41 (by decide) (vc_match_texts_key H v r h)⟩
abbrev I_match_texts_label : Pat := { slots := [(0, .ce (.v (.sl .node))), (1, .ce (.fn 43 [] []))], ents := [] }
abbrev O_match_texts_label : Pat := { slots := [(0, .ce (.v (.sl .str)))], ents := [] }
def c_match_texts_label : Ctr := { k0 := 0, inp := I_match_texts_label, body := fun v => .need (Sp.labelsOf.pre v.1) (.ret ⟨O_match_texts_label, (Sp.labelsOf v.1, ())⟩), ex := 0 }
def an_match_texts_label : Ann := [(3, { slots := [(1, .ce (.fn 43 [] [])), (5, .ce (.os 0)), (8, .ce (.v (.sl .node))), (9, .ce (.v (.int .i64))), (10, .ce (.v (.int .i64)))], ents := [.row 9 .str] })]
def cx_match_texts_label : Cx := mkCx [(43, [c_keys_Label])]
theorem eq_match_texts_label (l : (List Vi.Node)) (R : ((p : Pat) × p.V) → Prop) : fnVc (cx_match_texts_label) an_match_texts_label 0 Try.f41 I_match_texts_label [O_match_texts_label] (l, ()) R = match_texts_label.vc (fun y0 => R ⟨O_match_texts_label, (y0, ())⟩) l := by kernel_rfl
theorem fs_match_texts_label : CtrsOk Try.prog [(43, [c_keys_Label])] := ⟨ctr1 (ctr_keys_Label), trivial⟩
theorem vc_match_texts_label (H : Nat → Entry) (v : c_match_texts_label.inp.V) (r : (p : Pat) × p.V) (h : (c_match_texts_label.body v).Sel H r) : fnVc (cx_match_texts_label) an_match_texts_label 0 Try.f41 c_match_texts_label.inp [O_match_texts_label] v (fun r' => r' = r) := by
  obtain ⟨l, ⟨⟩⟩ := v
  obtain ⟨h, rfl⟩ := h
  exact Eq.mpr (eq_match_texts_label l _) (match_texts_label.ok _ l h rfl)
theorem ctr_match_texts_label : CtrOk Try.prog 41 c_match_texts_label := ⟨⟨_, Try.func41, by kernel_rfl, by kernel_rfl⟩, fun H v r h => mk_ok _ (fs_match_texts_label) (an := an_match_texts_label) (outs := [O_match_texts_label]) Try.func41 (by decide) (vc_match_texts_label H v r h)⟩
abbrev I_match_gap_alike : Pat := { slots := [(0, .ag (.pair (.int .i64) (.pair (.int .i64) (.pair (.int .i64) (.int .i64))))), (1, .ce (.v (.sl .str))), (2, .ce (.v (.sl .str)))], ents := [] }
abbrev O_match_gap_alike : Pat := { slots := [(0, .ce (.v (.sl (.pair (.int .i64) (.pair (.int .i64) .bool)))))], ents := [] }
def c_match_gap_alike : Ctr := { k0 := 0, inp := I_match_gap_alike, body := fun v => .need (Sp.alike.pre v.1 v.2.1 v.2.2.1) (.ret ⟨O_match_gap_alike, ((Sp.alike v.1 v.2.1 v.2.2.1), ())⟩), ex := 0 }
def an_match_gap_alike : Ann := [(4, { slots := [(1, .ce (.v (.sl .str))), (2, .ce (.v (.sl .str))), (3, .ce (.ptr 0 0)), (7, .ce (.os 1)), (8, .ce (.v (.int .i64))), (9, .ce (.v (.int .i64)))], ents := [.box 77 [.v (.int .i64), .v (.int .i64), .v (.int .i64), .v (.int .i64)], .row 31 (.pair (.int .i64) (.pair (.int .i64) .bool))] }), (7, { slots := [(1, .ce (.v (.sl .str))), (2, .ce (.v (.sl .str))), (3, .ce (.ptr 0 0)), (7, .ce (.os 1)), (8, .ce (.v (.int .i64))), (9, .ce (.v (.int .i64))), (10, .ce (.v (.int .i64)))], ents := [.box 77 [.v (.int .i64), .v (.int .i64), .v (.int .i64), .v (.int .i64)], .row 31 (.pair (.int .i64) (.pair (.int .i64) .bool))] })]
def cx_match_gap_alike : Cx := mkCx []
theorem eq_match_gap_alike (g : (Int × (Int × (Int × Int)))) (a : (List Str)) (b : (List Str)) (R : ((p : Pat) × p.V) → Prop) : fnVc (cx_match_gap_alike) an_match_gap_alike 0 Try.f44 I_match_gap_alike [O_match_gap_alike] (g, a, b, ()) R = match_gap_alike.vc (fun y0 => R ⟨O_match_gap_alike, (y0, ())⟩) g a b := by kernel_rfl
theorem fs_match_gap_alike : CtrsOk Try.prog [] := trivial
theorem vc_match_gap_alike (H : Nat → Entry) (v : c_match_gap_alike.inp.V) (r : (p : Pat) × p.V) (h : (c_match_gap_alike.body v).Sel H r) : fnVc (cx_match_gap_alike) an_match_gap_alike 0 Try.f44 c_match_gap_alike.inp [O_match_gap_alike] v (fun r' => r' = r) := by
  obtain ⟨g, a, b, ⟨⟩⟩ := v
  obtain ⟨h, rfl⟩ := h
  exact Eq.mpr (eq_match_gap_alike g a b _) (match_gap_alike.ok _ g a b h rfl)
theorem ctr_match_gap_alike : CtrOk Try.prog 44 c_match_gap_alike := ⟨⟨_, Try.func44, by kernel_rfl, by kernel_rfl⟩, fun H v r h => mk_ok _ (fs_match_gap_alike) (an := an_match_gap_alike) (outs := [O_match_gap_alike]) Try.func44 (by decide) (vc_match_gap_alike H v r h)⟩
abbrev I_match_Lists : Pat := { slots := [(0, .ce (.v (.sl .node))), (1, .ce (.v (.sl .node)))], ents := [] }
abbrev O_match_Lists : Pat := { slots := [(0, .ce (.v (.sl (.pair (.int .i64) (.pair (.int .i64) .bool)))))], ents := [] }
def c_match_Lists : Ctr := { k0 := 0, inp := I_match_Lists, body := fun v => .need (Sp.lists.pre v.1 v.2.1) (.ret ⟨O_match_Lists, ((Sp.lists v.1 v.2.1), ())⟩), ex := 0 }
def an_match_Lists : Ann := [(6, { slots := [(6, .ce (.v (.sl .str))), (7, .ce (.v (.sl .str))), (8, .ce (.os 0)), (9, .ce (.ptr 1 0)), (29, .ce (.os 2)), (30, .ce (.v (.int .i64))), (31, .ce (.v (.int .i64)))], ents := [.row 31 (.pair (.int .i64) (.pair (.int .i64) .bool)), .box 77 [.v (.int .i64), .v (.int .i64), .v (.int .i64), .v (.int .i64)], .row 31 (.pair (.int .i64) (.pair (.int .i64) .bool))] })]
def cx_match_Lists : Cx := mkCx [(41, [c_match_texts_key, c_match_texts_label]), (42, [c_keys_Key]), (15, [c_match_Line]), (43, [c_keys_Label]), (44, [c_match_gap_alike])]
theorem eq_match_Lists (a : (List Vi.Node)) (b : (List Vi.Node)) (R : ((p : Pat) × p.V) → Prop) : fnVc (cx_match_Lists) an_match_Lists 0 Try.f18 I_match_Lists [O_match_Lists] (a, b, ()) R = match_Lists.vc (fun y0 => R ⟨O_match_Lists, (y0, ())⟩) a b := by kernel_rfl
theorem fs_match_Lists : CtrsOk Try.prog [(41, [c_match_texts_key, c_match_texts_label]), (42, [c_keys_Key]), (15, [c_match_Line]), (43, [c_keys_Label]), (44, [c_match_gap_alike])] := ⟨(ctrC (ctr_match_texts_key) (ctr1 (ctr_match_texts_label))), ctr1 (ctr_keys_Key), ctr1 (ctr_match_Line), ctr1 (ctr_keys_Label), ctr1 (ctr_match_gap_alike), trivial⟩
theorem vc_match_Lists (H : Nat → Entry) (v : c_match_Lists.inp.V) (r : (p : Pat) × p.V) (h : (c_match_Lists.body v).Sel H r) : fnVc (cx_match_Lists) an_match_Lists 0 Try.f18 c_match_Lists.inp [O_match_Lists] v (fun r' => r' = r) := by
  obtain ⟨a, b, ⟨⟩⟩ := v
  obtain ⟨h, rfl⟩ := h
  exact Eq.mpr (eq_match_Lists a b _) (match_Lists.ok _ a b h rfl)
theorem ctr_match_Lists : CtrOk Try.prog 18 c_match_Lists := ⟨⟨_, Try.func18, by kernel_rfl, by kernel_rfl⟩, fun H v r h => mk_ok _ (fs_match_Lists) (an := an_match_Lists) (outs := [O_match_Lists]) Try.func18 (by decide) (vc_match_Lists H v r h)⟩
abbrev I_rectoplain_Attrs : Pat := { slots := [(0, .ce (.v (.sl (.pair .str .str)))), (1, .ce (.v (.sl (.pair .str .str))))], ents := [] }
abbrev O_rectoplain_Attrs : Pat := { slots := [(0, .ce (.v .bool))], ents := [] }
def c_rectoplain_Attrs : Ctr := { k0 := 0, inp := I_rectoplain_Attrs, body := fun v => .need (Sp.eqAt.pre v.1 v.2.1) (.ret ⟨O_rectoplain_Attrs, ((Sp.eqAt v.1 v.2.1), ())⟩), ex := 0 }
def an_rectoplain_Attrs : Ann := [(2, { slots := [(0, .ce (.v (.sl (.pair .str .str)))), (1, .ce (.v (.sl (.pair .str .str)))), (7, .ce (.v (.int .i64))), (8, .ce (.v (.int .i64)))], ents := [] })]
def cx_rectoplain_Attrs : Cx := mkCx []
theorem eq_rectoplain_Attrs (a : (List (Str × Str))) (b : (List (Str × Str))) (R : ((p : Pat) × p.V) → Prop) : fnVc (cx_rectoplain_Attrs) an_rectoplain_Attrs 0 Try.f85 I_rectoplain_Attrs [O_rectoplain_Attrs] (a, b, ()) R = rectoplain_Attrs.vc (fun y0 => R ⟨O_rectoplain_Attrs, (y0, ())⟩) a b := by kernel_rfl
theorem fs_rectoplain_Attrs : CtrsOk Try.prog [] := trivial
theorem vc_rectoplain_Attrs (H : Nat → Entry) (v : c_rectoplain_Attrs.inp.V) (r : (p : Pat) × p.V) (h : (c_rectoplain_Attrs.body v).Sel H r) : fnVc (cx_rectoplain_Attrs) an_rectoplain_Attrs 0 Try.f85 c_rectoplain_Attrs.inp [O_rectoplain_Attrs] v (fun r' => r' = r) := by
  obtain ⟨a, b, ⟨⟩⟩ := v
  obtain ⟨h, rfl⟩ := h
  exact Eq.mpr (eq_rectoplain_Attrs a b _) (rectoplain_Attrs.ok _ a b h rfl)
theorem ctr_rectoplain_Attrs : CtrOk Try.prog 85 c_rectoplain_Attrs := ⟨⟨_, Try.func85, by kernel_rfl, by kernel_rfl⟩, fun H v r h => mk_ok _ (fs_rectoplain_Attrs) (an := an_rectoplain_Attrs) (outs := [O_rectoplain_Attrs]) Try.func85 (by decide) (vc_rectoplain_Attrs H v r h)⟩
abbrev I_rectoplain_Node : Pat := { slots := [(0, .ag .node), (1, .ag .node)], ents := [] }
abbrev O_rectoplain_Node : Pat := { slots := [(0, .ce (.v .bool))], ents := [] }
def r_rectoplain_Node (nn : Nat) : Ctr := { k0 := 0, inp := I_rectoplain_Node, body := fun v => .need (Sp.eqNd.pre v.1 v.2.1 ∧ Sp.mNd v.1 v.2.1 < nn) (.ret ⟨O_rectoplain_Node, ((Sp.eqNd v.1 v.2.1), ())⟩), ex := 0 }
def an_rectoplain_Node : Ann := []
abbrev I_rectoplain_Nodes : Pat := { slots := [(0, .ce (.v (.sl .node))), (1, .ce (.v (.sl .node)))], ents := [] }
abbrev O_rectoplain_Nodes : Pat := { slots := [(0, .ce (.v .bool))], ents := [] }
def r_rectoplain_Nodes (nn : Nat) : Ctr := { k0 := 0, inp := I_rectoplain_Nodes, body := fun v => .need (Sp.eqNs.pre v.1 v.2.1 ∧ Sp.mNs v.1 v.2.1 < nn) (.ret ⟨O_rectoplain_Nodes, ((Sp.eqNs v.1 v.2.1), ())⟩), ex := 0 }
def c_rectoplain_Nodes : Ctr := { k0 := 0, inp := I_rectoplain_Nodes, body := fun v => .need (Sp.eqNs.pre v.1 v.2.1) (.ret ⟨O_rectoplain_Nodes, ((Sp.eqNs v.1 v.2.1), ())⟩), ex := 0 }
def an_rectoplain_Nodes : Ann := [(2, { slots := [(0, .ce (.v (.sl .node))), (1, .ce (.v (.sl .node))), (7, .ce (.v (.int .i64))), (8, .ce (.v (.int .i64)))], ents := [] })]
def cx_rectoplain_Node (nn : Nat) : Cx := mkCx [(85, [c_rectoplain_Attrs]), (37, [r_rectoplain_Nodes nn])]
def cx_rectoplain_Nodes (nn : Nat) : Cx := mkCx [(63, [r_rectoplain_Node nn])]
theorem eq_rectoplain_Node (nn : Nat) (a : Vi.Node) (b : Vi.Node) (R : ((p : Pat) × p.V) → Prop) : fnVc (cx_rectoplain_Node nn) an_rectoplain_Node 0 Try.f63 I_rectoplain_Node [O_rectoplain_Node] (a, b, ()) R = rectoplain_Node.vc (fun y0 => R ⟨O_rectoplain_Node, (y0, ())⟩) nn a b := by kernel_rfl
theorem fs_rectoplain_Node (nn : Nat) (ih_rectoplain_Nodes : CtrOk Try.prog 37 (r_rectoplain_Nodes nn)) : CtrsOk Try.prog [(85, [c_rectoplain_Attrs]), (37, [r_rectoplain_Nodes nn])] := ⟨(ctr1 (ctr_rectoplain_Attrs)), (ctr1 ih_rectoplain_Nodes), trivial⟩
theorem eq_rectoplain_Nodes (nn : Nat) (a : (List Vi.Node)) (b : (List Vi.Node)) (R : ((p : Pat) × p.V) → Prop) : fnVc (cx_rectoplain_Nodes nn) an_rectoplain_Nodes 0 Try.f37 I_rectoplain_Nodes [O_rectoplain_Nodes] (a, b, ()) R = rectoplain_Nodes.vc (fun y0 => R ⟨O_rectoplain_Nodes, (y0, ())⟩) nn a b := by kernel_rfl
theorem fs_rectoplain_Nodes (nn : Nat) (ih_rectoplain_Node : CtrOk Try.prog 63 (r_rectoplain_Node nn)) : CtrsOk Try.prog [(63, [r_rectoplain_Node nn])] := ⟨(ctr1 ih_rectoplain_Node), trivial⟩
theorem grp_node (nn : Nat) : CtrOk Try.prog 63 (r_rectoplain_Node nn) ∧ CtrOk Try.prog 37 (r_rectoplain_Nodes nn) := by
  induction nn with
  | zero => exact ⟨⟨⟨_, Try.func63, by kernel_rfl, by kernel_rfl⟩, fun H v r h => absurd h.1.2 (Nat.not_lt_zero _)⟩, ⟨⟨_, Try.func37, by kernel_rfl, by kernel_rfl⟩, fun H v r h => absurd h.1.2 (Nat.not_lt_zero _)⟩⟩
  | succ nn ih =>
  obtain ⟨ih_rectoplain_Node, ih_rectoplain_Nodes⟩ := ih
  refine ⟨⟨⟨_, Try.func63, by kernel_rfl, by kernel_rfl⟩, ?_⟩, ⟨⟨_, Try.func37, by kernel_rfl, by kernel_rfl⟩, ?_⟩⟩
  · intro H v r h
    obtain ⟨a, b, ⟨⟩⟩ := v
    obtain ⟨h, rfl⟩ := h
    exact mk_ok _ (fs_rectoplain_Node nn ih_rectoplain_Nodes) (an := an_rectoplain_Node) (outs := [O_rectoplain_Node]) Try.func63 (Nat.le_of_ble_eq_true rfl) (Eq.mpr (eq_rectoplain_Node nn a b _) (rectoplain_Node.ok nn _ a b h rfl))
  · intro H v r h
    obtain ⟨a, b, ⟨⟩⟩ := v
    obtain ⟨h, rfl⟩ := h
    exact mk_ok _ (fs_rectoplain_Nodes nn ih_rectoplain_Node) (an := an_rectoplain_Nodes) (outs := [O_rectoplain_Nodes]) Try.func37 (Nat.le_of_ble_eq_true rfl) (Eq.mpr (eq_rectoplain_Nodes nn a b _) (rectoplain_Nodes.ok nn _ a b h rfl))

theorem ctr_rectoplain_Nodes : CtrOk Try.prog 37 c_rectoplain_Nodes := ⟨⟨_, Try.func37, by kernel_rfl, by kernel_rfl⟩, fun H v r h => ((grp_node (Sp.mNs v.1 v.2.1 + 1)).2.2 H v r ⟨⟨h.1, Nat.lt_succ_self _⟩, h.2⟩).body⟩
abbrev I_rectoplain_Large : Pat := { slots := [(0, .ce (.v (.sl .node))), (1, .ce (.ptr 0 0)), (2, .ce (.v (.int .i64)))], ents := [.box 73 [.v (.int .i64)]] }
abbrev O_rectoplain_Large : Pat := { slots := [(0, .ce (.v .bool))], ents := [.box 73 [.v (.int .i64)]] }
def r_rectoplain_Large (nn : Nat) : Ctr := { k0 := 1, inp := I_rectoplain_Large, body := fun v => .need (Sp.lg.pre v.1 v.2.1 v.2.2.1 ∧ Sp.mLg v.1 v.2.1 v.2.2.1 < nn) (.ret ⟨O_rectoplain_Large, ((Sp.lg v.1 v.2.1 v.2.2.1).1, (Sp.lg v.1 v.2.1 v.2.2.1).2, ())⟩), ex := 0 }
def c_rectoplain_Large : Ctr := { k0 := 1, inp := I_rectoplain_Large, body := fun v => .need (Sp.lg.pre v.1 v.2.1 v.2.2.1) (.ret ⟨O_rectoplain_Large, ((Sp.lg v.1 v.2.1 v.2.2.1).1, (Sp.lg v.1 v.2.1 v.2.2.1).2, ())⟩), ex := 0 }
def an_rectoplain_Large : Ann := [(4, { slots := [(1, .ce (.ptr 0 0)), (2, .ce (.v (.int .i64))), (18, .ce (.v (.sl .node))), (19, .ce (.v (.int .i64))), (20, .ce (.v (.int .i64)))], ents := [.box 73 [.v (.int .i64)]] }), (11, { slots := [(1, .ce (.ptr 0 0)), (2, .ce (.v (.int .i64))), (8, .ce (.ptr 1 0)), (18, .ce (.v (.sl .node))), (19, .ce (.v (.int .i64))), (20, .ce (.v (.int .i64))), (72, .ce (.v (.sl (.pair .str .str)))), (73, .ce (.v (.int .i64))), (74, .ce (.v (.int .i64)))], ents := [.box 73 [.v (.int .i64)], .box 80 [.v (.int .i64), .v (.int .i64), .v .str, .v (.sl (.pair .str .str)), .v .str, .v (.sl .node)]] })]
def cx_rectoplain_Large (nn : Nat) : Cx := mkCx [(40, [r_rectoplain_Large nn])]
theorem eq_rectoplain_Large (nn : Nat) (l : (List Vi.Node)) (depth : Int) (room : Int) (R : ((p : Pat) × p.V) → Prop) : fnVc (cx_rectoplain_Large nn) an_rectoplain_Large 1 Try.f40 I_rectoplain_Large [O_rectoplain_Large] (l, depth, room, ()) R = rectoplain_Large.vc (fun y0 y1 => R ⟨O_rectoplain_Large, (y0, y1, ())⟩) nn l depth room := by kernel_rfl
theorem fs_rectoplain_Large (nn : Nat) (ih_rectoplain_Large : CtrOk Try.prog 40 (r_rectoplain_Large nn)) : CtrsOk Try.prog [(40, [r_rectoplain_Large nn])] := ⟨(ctr1 ih_rectoplain_Large), trivial⟩
theorem grp_large (nn : Nat) : CtrOk Try.prog 40 (r_rectoplain_Large nn) := by
  induction nn with
  | zero => exact ⟨⟨_, Try.func40, by kernel_rfl, by kernel_rfl⟩, fun H v r h => absurd h.1.2 (Nat.not_lt_zero _)⟩
  | succ nn ih =>
  have ih_rectoplain_Large := ih
  refine ⟨⟨_, Try.func40, by kernel_rfl, by kernel_rfl⟩, ?_⟩
  · intro H v r h
    obtain ⟨l, depth, room, ⟨⟩⟩ := v
    obtain ⟨h, rfl⟩ := h
    exact mk_ok _ (fs_rectoplain_Large nn ih_rectoplain_Large) (an := an_rectoplain_Large) (outs := [O_rectoplain_Large]) Try.func40 (Nat.le_of_ble_eq_true rfl) (Eq.mpr (eq_rectoplain_Large nn l depth room _) (rectoplain_Large.ok nn _ l depth room h rfl))

theorem ctr_rectoplain_Large : CtrOk Try.prog 40 c_rectoplain_Large := ⟨⟨_, Try.func40, by kernel_rfl, by kernel_rfl⟩, fun H v r h => ((grp_large (Sp.mLg v.1 v.2.1 v.2.2.1 + 1)).2 H v r ⟨⟨h.1, Nat.lt_succ_self _⟩, h.2⟩).body⟩
end Vs
