/- Functions held against what they tell. Written by a program of this session. -/
import Derived.Test.YtpgodffogmgnhaaPlN
import Derived.Test.YtpgodffogmgnhaaViThree
import Derived.Test.YtpgodffogmgnhaaFnlD
set_option linter.unnecessarySimpa false
set_option linter.unusedVariables false
set_option linter.unusedSectionVars false
set_option linter.unusedSimpArgs false
set_option autoImplicit false
set_option linter.unusedVariables false
set_option maxRecDepth 100000
attribute [local irreducible] Vi.fnVc
namespace Vs
open Go Vi Go.Proofs
abbrev I_strings_Builder_WriteString : Pat := { slots := [(0, .ce (.ptr 0 0)), (1, .ce (.v .str))], ents := [.box 107 [.pn 0, .os 1], .row 5 (.int .u8)] }
abbrev O_strings_Builder_WriteString : Pat := { slots := [(0, .ce (.v (.int .i64))), (1, .ce .z)], ents := [.box 107 [.pn 0, .os 1], .row 5 (.int .u8)] }
def c_strings_Builder_WriteString : Ctr := { k0 := 1, inp := I_strings_Builder_WriteString, body := fun v => .need (Sp.wr.pre v.2.1 v.1) (.ret ⟨O_strings_Builder_WriteString, ((v.1.length : Int), Sp.wr v.2.1 v.1, ())⟩), ex := 0 }
def an_strings_Builder_WriteString : Ann := []
def cx_strings_Builder_WriteString : Cx := mkCx []
theorem eq_strings_Builder_WriteString (s : Str) (x : (List Int)) (R : ((p : Pat) × p.V) → Prop) : fnVc (cx_strings_Builder_WriteString) an_strings_Builder_WriteString 1 Try.f59 I_strings_Builder_WriteString [O_strings_Builder_WriteString] (s, x, ()) R = strings_Builder_WriteString.vc (fun y0 y1 => R ⟨O_strings_Builder_WriteString, (y0, y1, ())⟩) s x := by kernel_rfl
theorem fs_strings_Builder_WriteString : CtrsOk Try.prog [] := trivial
theorem vc_strings_Builder_WriteString (H : Nat → Entry) (v : c_strings_Builder_WriteString.inp.V) (r : (p : Pat) × p.V) (h : (c_strings_Builder_WriteString.body v).Sel H r) : fnVc (cx_strings_Builder_WriteString) an_strings_Builder_WriteString 1 Try.f59 c_strings_Builder_WriteString.inp [O_strings_Builder_WriteString] v (fun r' => r' = r) := by
  obtain ⟨s, x, ⟨⟩⟩ := v
  obtain ⟨h, rfl⟩ := h
  exact Eq.mpr (eq_strings_Builder_WriteString s x _) (strings_Builder_WriteString.ok _ s x h rfl)
theorem ctr_strings_Builder_WriteString : CtrOk Try.prog 59 c_strings_Builder_WriteString := ⟨⟨_, Try.func59, by kernel_rfl, by kernel_rfl⟩, fun H v r h => mk_ok _ (fs_strings_Builder_WriteString) (an := an_strings_Builder_WriteString) (outs := [O_strings_Builder_WriteString]) Try.func59 (by decide) (vc_strings_Builder_WriteString H v r h)⟩
abbrev I_strings_Builder_String : Pat := { slots := [(0, .ce (.ptr 0 0))], ents := [.box 107 [.pn 0, .os 1], .row 5 (.int .u8)] }
abbrev O_strings_Builder_String : Pat := { slots := [(0, .ce (.v .str))], ents := [.box 107 [.pn 0, .z]] }
def c_strings_Builder_String : Ctr := { k0 := 1, inp := I_strings_Builder_String, body := fun v => .ret ⟨O_strings_Builder_String, (bytesOf v.1, ())⟩, ex := 0 }
def an_strings_Builder_String : Ann := []
def cx_strings_Builder_String : Cx := mkCx []
theorem eq_strings_Builder_String (x : (List Int)) (R : ((p : Pat) × p.V) → Prop) : fnVc (cx_strings_Builder_String) an_strings_Builder_String 1 Try.f60 I_strings_Builder_String [O_strings_Builder_String] (x, ()) R = strings_Builder_String.vc (fun y0 => R ⟨O_strings_Builder_String, (y0, ())⟩) x := by kernel_rfl
theorem fs_strings_Builder_String : CtrsOk Try.prog [] := trivial
theorem vc_strings_Builder_String (H : Nat → Entry) (v : c_strings_Builder_String.inp.V) (r : (p : Pat) × p.V) (h : (c_strings_Builder_String.body v).Sel H r) : fnVc (cx_strings_Builder_String) an_strings_Builder_String 1 Try.f60 c_strings_Builder_String.inp [O_strings_Builder_String] v (fun r' => r' = r) := by
  obtain ⟨x, ⟨⟩⟩ := v
  obtain rfl := h
  exact Eq.mpr (eq_strings_Builder_String x _) (strings_Builder_String.ok _ x  rfl)
theorem ctr_strings_Builder_String : CtrOk Try.prog 60 c_strings_Builder_String := ⟨⟨_, Try.func60, by kernel_rfl, by kernel_rfl⟩, fun H v r h => mk_ok _ (fs_strings_Builder_String) (an := an_strings_Builder_String) (outs := [O_strings_Builder_String]) Try.func60 (by decide) (vc_strings_Builder_String H v r h)⟩
abbrev I_quill_digits : Pat := { slots := [(0, .ce (.v (.int .i64)))], ents := [] }
abbrev O_quill_digits : Pat := { slots := [(0, .ce (.v .str))], ents := [] }
def c_quill_digits (nn : Nat) : Ctr := { k0 := 0, inp := I_quill_digits, body := fun v => .need (Sp.digs.pre v.1 ∧ Sp.digm v.1 < nn) (.ret ⟨O_quill_digits, ((Sp.digs v.1), ())⟩), ex := 0 }
def an_quill_digits : Ann := []
def cx_quill_digits (nn : Nat) : Cx := mkCx [(112, [c_quill_digits nn])]
theorem eq_quill_digits (nn : Nat) (n : Int) (R : ((p : Pat) × p.V) → Prop) : fnVc (cx_quill_digits nn) an_quill_digits 0 Try.f112 I_quill_digits [O_quill_digits] (n, ()) R = quill_digits.vc (fun y0 => R ⟨O_quill_digits, (y0, ())⟩) nn n := by kernel_rfl
theorem fs_quill_digits (nn : Nat) (ih : CtrOk Try.prog 112 (c_quill_digits nn)) : CtrsOk Try.prog [(112, [c_quill_digits nn])] := ⟨ctr1 ih, trivial⟩
theorem ctr_quill_digits (nn : Nat) : CtrOk Try.prog 112 (c_quill_digits nn) := by
  induction nn with
  | zero => exact ⟨⟨_, Try.func112, by kernel_rfl, by kernel_rfl⟩, fun H v r h => absurd h.1.2 (Nat.not_lt_zero _)⟩
  | succ nn ih =>
  refine ⟨⟨_, Try.func112, by kernel_rfl, by kernel_rfl⟩, ?_⟩
  intro H v r h
  obtain ⟨n, ⟨⟩⟩ := v
  obtain ⟨h, rfl⟩ := h
  exact mk_ok _ (fs_quill_digits nn ih) (an := an_quill_digits) (outs := [O_quill_digits]) Try.func112 (Nat.le_of_ble_eq_true rfl) (Eq.mpr (eq_quill_digits nn n _) (quill_digits.ok nn _ n h rfl))
abbrev I_quill_Num : Pat := { slots := [(0, .ce (.v (.int .i64)))], ents := [] }
abbrev O_quill_Num : Pat := { slots := [(0, .ce (.v .str)), (1, .ce (.v (.int .i64)))], ents := [] }
def c_quill_Num : Ctr := { k0 := 0, inp := I_quill_Num, body := fun v => .ret ⟨O_quill_Num, ((Sp.numP v.1).1, (Sp.numP v.1).2, ())⟩, ex := 0 }
def an_quill_Num : Ann := []
def cx_quill_Num : Cx := mkCx [(112, [c_quill_digits 1099511627778])]
theorem eq_quill_Num (n : Int) (R : ((p : Pat) × p.V) → Prop) : fnVc (cx_quill_Num) an_quill_Num 0 Try.f107 I_quill_Num [O_quill_Num] (n, ()) R = quill_Num.vc (fun y0 y1 => R ⟨O_quill_Num, (y0, y1, ())⟩) n := by kernel_rfl
theorem fs_quill_Num : CtrsOk Try.prog [(112, [c_quill_digits 1099511627778])] := ⟨ctr1 (ctr_quill_digits 1099511627778), trivial⟩
theorem vc_quill_Num (H : Nat → Entry) (v : c_quill_Num.inp.V) (r : (p : Pat) × p.V) (h : (c_quill_Num.body v).Sel H r) : fnVc (cx_quill_Num) an_quill_Num 0 Try.f107 c_quill_Num.inp [O_quill_Num] v (fun r' => r' = r) := by
  obtain ⟨n, ⟨⟩⟩ := v
  obtain rfl := h
  exact Eq.mpr (eq_quill_Num n _) (quill_Num.ok _ n  rfl)
theorem ctr_quill_Num : CtrOk Try.prog 107 c_quill_Num := ⟨⟨_, Try.func107, by kernel_rfl, by kernel_rfl⟩, fun H v r h => mk_ok _ (fs_quill_Num) (an := an_quill_Num) (outs := [O_quill_Num]) Try.func107 (by decide) (vc_quill_Num H v r h)⟩
abbrev I_quill_joined : Pat := { slots := [(0, .ce (.v (.sl .str)))], ents := [] }
abbrev O_quill_joined : Pat := { slots := [(0, .ce (.v .str)), (1, .ce (.v (.int .i64)))], ents := [] }
def c_quill_joined : Ctr := { k0 := 0, inp := I_quill_joined, body := fun v => .need (Sp.joinedP.pre v.1) (.ret ⟨O_quill_joined, ((Sp.joinedP v.1).1, (Sp.joinedP v.1).2, ())⟩), ex := 0 }
def an_quill_joined : Ann := [(3, { slots := [(4, .ce (.ptr 0 0)), (9, .ce (.v (.sl .str))), (10, .ce (.v (.int .i64))), (11, .ce (.v (.int .i64)))], ents := [.box 107 [.pn 0, .os 1], .row 5 (.int .u8)] })]
def cx_quill_joined : Cx := mkCx [(107, [c_quill_Num]), (59, [c_strings_Builder_WriteString]), (60, [c_strings_Builder_String])]
theorem eq_quill_joined (l : (List Str)) (R : ((p : Pat) × p.V) → Prop) : fnVc (cx_quill_joined) an_quill_joined 0 Try.f93 I_quill_joined [O_quill_joined] (l, ()) R = quill_joined.vc (fun y0 y1 => R ⟨O_quill_joined, (y0, y1, ())⟩) l := by kernel_rfl
theorem fs_quill_joined : CtrsOk Try.prog [(107, [c_quill_Num]), (59, [c_strings_Builder_WriteString]), (60, [c_strings_Builder_String])] := ⟨ctr1 (ctr_quill_Num), ctr1 (ctr_strings_Builder_WriteString), ctr1 (ctr_strings_Builder_String), trivial⟩
theorem vc_quill_joined (H : Nat → Entry) (v : c_quill_joined.inp.V) (r : (p : Pat) × p.V) (h : (c_quill_joined.body v).Sel H r) : fnVc (cx_quill_joined) an_quill_joined 0 Try.f93 c_quill_joined.inp [O_quill_joined] v (fun r' => r' = r) := by
  obtain ⟨l, ⟨⟩⟩ := v
  obtain ⟨h, rfl⟩ := h
  exact Eq.mpr (eq_quill_joined l _) (quill_joined.ok _ l h rfl)
theorem ctr_quill_joined : CtrOk Try.prog 93 c_quill_joined := ⟨⟨_, Try.func93, by kernel_rfl, by kernel_rfl⟩, fun H v r h => mk_ok _ (fs_quill_joined) (an := an_quill_joined) (outs := [O_quill_joined]) Try.func93 (by decide) (vc_quill_joined H v r h)⟩
abbrev I_quill_Text : Pat := { slots := [(0, .ce (.v .str))], ents := [] }
abbrev O_quill_Text : Pat := { slots := [(0, .ce (.v .str)), (1, .ce (.v (.int .i64)))], ents := [] }
def c_quill_Text : Ctr := { k0 := 0, inp := I_quill_Text, body := fun v => .ret ⟨O_quill_Text, ((Sp.textP v.1).1, (Sp.textP v.1).2, ())⟩, ex := 0 }
def an_quill_Text : Ann := []
def cx_quill_Text : Cx := mkCx [(93, [c_quill_joined])]
theorem eq_quill_Text (s : Str) (R : ((p : Pat) × p.V) → Prop) : fnVc (cx_quill_Text) an_quill_Text 0 Try.f66 I_quill_Text [O_quill_Text] (s, ()) R = quill_Text.vc (fun y0 y1 => R ⟨O_quill_Text, (y0, y1, ())⟩) s := by kernel_rfl
theorem fs_quill_Text : CtrsOk Try.prog [(93, [c_quill_joined])] := ⟨ctr1 (ctr_quill_joined), trivial⟩
theorem vc_quill_Text (H : Nat → Entry) (v : c_quill_Text.inp.V) (r : (p : Pat) × p.V) (h : (c_quill_Text.body v).Sel H r) : fnVc (cx_quill_Text) an_quill_Text 0 Try.f66 c_quill_Text.inp [O_quill_Text] v (fun r' => r' = r) := by
  obtain ⟨s, ⟨⟩⟩ := v
  obtain rfl := h
  exact Eq.mpr (eq_quill_Text s _) (quill_Text.ok _ s  rfl)
theorem ctr_quill_Text : CtrOk Try.prog 66 c_quill_Text := ⟨⟨_, Try.func66, by kernel_rfl, by kernel_rfl⟩, fun H v r h => mk_ok _ (fs_quill_Text) (an := an_quill_Text) (outs := [O_quill_Text]) Try.func66 (by decide) (vc_quill_Text H v r h)⟩
abbrev I_quill_TakeNum : Pat := { slots := [(0, .ce (.v .str))], ents := [] }
abbrev O_quill_TakeNum : Pat := { slots := [(0, .ce (.v (.int .i64))), (1, .ce (.v .str)), (2, .ce (.v (.int .i64)))], ents := [] }
def c_quill_TakeNum : Ctr := { k0 := 0, inp := I_quill_TakeNum, body := fun v => .need (Sp.takeNum.pre v.1) (.ret ⟨O_quill_TakeNum, ((Sp.takeNum v.1).1, (Sp.takeNum v.1).2.1, (Sp.takeNum v.1).2.2, ())⟩), ex := 0 }
def an_quill_TakeNum : Ann := [(6, { slots := [(5, .ce (.v .str)), (6, .ce (.v .str)), (7, .ce (.v (.int .i64))), (39, .ce (.v (.int .i64))), (40, .ce (.v (.int .i64)))], ents := [] })]
def cx_quill_TakeNum : Cx := mkCx []
theorem eq_quill_TakeNum (b : Str) (R : ((p : Pat) × p.V) → Prop) : fnVc (cx_quill_TakeNum) an_quill_TakeNum 0 Try.f106 I_quill_TakeNum [O_quill_TakeNum] (b, ()) R = quill_TakeNum.vc (fun y0 y1 y2 => R ⟨O_quill_TakeNum, (y0, y1, y2, ())⟩) b := by kernel_rfl
theorem fs_quill_TakeNum : CtrsOk Try.prog [] := trivial
theorem vc_quill_TakeNum (H : Nat → Entry) (v : c_quill_TakeNum.inp.V) (r : (p : Pat) × p.V) (h : (c_quill_TakeNum.body v).Sel H r) : fnVc (cx_quill_TakeNum) an_quill_TakeNum 0 Try.f106 c_quill_TakeNum.inp [O_quill_TakeNum] v (fun r' => r' = r) := by
  obtain ⟨b, ⟨⟩⟩ := v
  obtain ⟨h, rfl⟩ := h
  exact Eq.mpr (eq_quill_TakeNum b _) (quill_TakeNum.ok _ b h rfl)
theorem ctr_quill_TakeNum : CtrOk Try.prog 106 c_quill_TakeNum := ⟨⟨_, Try.func106, by kernel_rfl, by kernel_rfl⟩, fun H v r h => mk_ok _ (fs_quill_TakeNum) (an := an_quill_TakeNum) (outs := [O_quill_TakeNum]) Try.func106 (by decide) (vc_quill_TakeNum H v r h)⟩
abbrev I_quill_TakeText : Pat := { slots := [(0, .ce (.v .str))], ents := [] }
abbrev O_quill_TakeText : Pat := { slots := [(0, .ce (.v .str)), (1, .ce (.v .str)), (2, .ce (.v (.int .i64)))], ents := [] }
def c_quill_TakeText : Ctr := { k0 := 0, inp := I_quill_TakeText, body := fun v => .need (Sp.takeText.pre v.1) (.ret ⟨O_quill_TakeText, ((Sp.takeText v.1).1, (Sp.takeText v.1).2.1, (Sp.takeText v.1).2.2, ())⟩), ex := 0 }
def an_quill_TakeText : Ann := []
def cx_quill_TakeText : Cx := mkCx [(106, [c_quill_TakeNum])]
theorem eq_quill_TakeText (b : Str) (R : ((p : Pat) × p.V) → Prop) : fnVc (cx_quill_TakeText) an_quill_TakeText 0 Try.f92 I_quill_TakeText [O_quill_TakeText] (b, ()) R = quill_TakeText.vc (fun y0 y1 y2 => R ⟨O_quill_TakeText, (y0, y1, y2, ())⟩) b := by kernel_rfl
theorem fs_quill_TakeText : CtrsOk Try.prog [(106, [c_quill_TakeNum])] := ⟨ctr1 (ctr_quill_TakeNum), trivial⟩
theorem vc_quill_TakeText (H : Nat → Entry) (v : c_quill_TakeText.inp.V) (r : (p : Pat) × p.V) (h : (c_quill_TakeText.body v).Sel H r) : fnVc (cx_quill_TakeText) an_quill_TakeText 0 Try.f92 c_quill_TakeText.inp [O_quill_TakeText] v (fun r' => r' = r) := by
  obtain ⟨b, ⟨⟩⟩ := v
  obtain ⟨h, rfl⟩ := h
  exact Eq.mpr (eq_quill_TakeText b _) (quill_TakeText.ok _ b h rfl)
theorem ctr_quill_TakeText : CtrOk Try.prog 92 c_quill_TakeText := ⟨⟨_, Try.func92, by kernel_rfl, by kernel_rfl⟩, fun H v r h => mk_ok _ (fs_quill_TakeText) (an := an_quill_TakeText) (outs := [O_quill_TakeText]) Try.func92 (by decide) (vc_quill_TakeText H v r h)⟩
abbrev I_rectoref01_Size : Pat := { slots := [(0, .ce (.v (.int .i64)))], ents := [] }
abbrev O_rectoref01_Size : Pat := { slots := [(0, .ce (.v (.int .i64)))], ents := [] }
def c_rectoref01_Size : Ctr := { k0 := 0, inp := I_rectoref01_Size, body := fun v => .need (Sp.sizeN.pre v.1) (.ret ⟨O_rectoref01_Size, ((Sp.sizeN v.1), ())⟩), ex := 0 }
def an_rectoref01_Size : Ann := [(3, { slots := [(3, .ce (.v (.int .i64))), (4, .ce (.v (.int .i64)))], ents := [] })]
def cx_rectoref01_Size : Cx := mkCx []
theorem eq_rectoref01_Size (n : Int) (R : ((p : Pat) × p.V) → Prop) : fnVc (cx_rectoref01_Size) an_rectoref01_Size 0 Try.f23 I_rectoref01_Size [O_rectoref01_Size] (n, ()) R = rectoref01_Size.vc (fun y0 => R ⟨O_rectoref01_Size, (y0, ())⟩) n := by kernel_rfl
theorem fs_rectoref01_Size : CtrsOk Try.prog [] := trivial
theorem vc_rectoref01_Size (H : Nat → Entry) (v : c_rectoref01_Size.inp.V) (r : (p : Pat) × p.V) (h : (c_rectoref01_Size.body v).Sel H r) : fnVc (cx_rectoref01_Size) an_rectoref01_Size 0 Try.f23 c_rectoref01_Size.inp [O_rectoref01_Size] v (fun r' => r' = r) := by
  obtain ⟨n, ⟨⟩⟩ := v
  obtain ⟨h, rfl⟩ := h
  exact Eq.mpr (eq_rectoref01_Size n _) (rectoref01_Size.ok _ n h rfl)
theorem ctr_rectoref01_Size : CtrOk Try.prog 23 c_rectoref01_Size := ⟨⟨_, Try.func23, by kernel_rfl, by kernel_rfl⟩, fun H v r h => mk_ok _ (fs_rectoref01_Size) (an := an_rectoref01_Size) (outs := [O_rectoref01_Size]) Try.func23 (by decide) (vc_rectoref01_Size H v r h)⟩
abbrev I_rectoref01_Plain : Pat := { slots := [(0, .ce (.v (.int .i64)))], ents := [] }
abbrev O_rectoref01_Plain : Pat := { slots := [(0, .ce (.v .str))], ents := [] }
def c_rectoref01_Plain : Ctr := { k0 := 0, inp := I_rectoref01_Plain, body := fun v => .need (Sp.plain.pre v.1) (.ret ⟨O_rectoref01_Plain, ((Sp.plain v.1), ())⟩), ex := 0 }
def an_rectoref01_Plain : Ann := [(3, { slots := [(0, .ce (.v (.int .i64))), (3, .ce (.v .str)), (4, .ce (.v (.int .i64)))], ents := [] })]
def cx_rectoref01_Plain : Cx := mkCx [(23, [c_rectoref01_Size])]
theorem eq_rectoref01_Plain (n : Int) (R : ((p : Pat) × p.V) → Prop) : fnVc (cx_rectoref01_Plain) an_rectoref01_Plain 0 Try.f75 I_rectoref01_Plain [O_rectoref01_Plain] (n, ()) R = rectoref01_Plain.vc (fun y0 => R ⟨O_rectoref01_Plain, (y0, ())⟩) n := by kernel_rfl
theorem fs_rectoref01_Plain : CtrsOk Try.prog [(23, [c_rectoref01_Size])] := ⟨ctr1 (ctr_rectoref01_Size), trivial⟩
theorem vc_rectoref01_Plain (H : Nat → Entry) (v : c_rectoref01_Plain.inp.V) (r : (p : Pat) × p.V) (h : (c_rectoref01_Plain.body v).Sel H r) : fnVc (cx_rectoref01_Plain) an_rectoref01_Plain 0 Try.f75 c_rectoref01_Plain.inp [O_rectoref01_Plain] v (fun r' => r' = r) := by
  obtain ⟨n, ⟨⟩⟩ := v
  obtain ⟨h, rfl⟩ := h
  exact Eq.mpr (eq_rectoref01_Plain n _) (rectoref01_Plain.ok _ n h rfl)
theorem ctr_rectoref01_Plain : CtrOk Try.prog 75 c_rectoref01_Plain := ⟨⟨_, Try.func75, by kernel_rfl, by kernel_rfl⟩, fun H v r h => mk_ok _ (fs_rectoref01_Plain) (an := an_rectoref01_Plain) (outs := [O_rectoref01_Plain]) Try.func75 (by decide) (vc_rectoref01_Plain H v r h)⟩
abbrev I_rectoref01_Text : Pat := { slots := [(0, .ce (.v .str))], ents := [] }
abbrev O_rectoref01_Text : Pat := { slots := [(0, .ce (.v .str)), (1, .ce (.v (.int .i64)))], ents := [] }
def c_rectoref01_Text : Ctr := { k0 := 0, inp := I_rectoref01_Text, body := fun v => .ret ⟨O_rectoref01_Text, ((Sp.textP v.1).1, (Sp.textP v.1).2, ())⟩, ex := 0 }
def an_rectoref01_Text : Ann := []
def cx_rectoref01_Text : Cx := mkCx [(75, [c_rectoref01_Plain])]
theorem eq_rectoref01_Text (s : Str) (R : ((p : Pat) × p.V) → Prop) : fnVc (cx_rectoref01_Text) an_rectoref01_Text 0 Try.f77 I_rectoref01_Text [O_rectoref01_Text] (s, ()) R = rectoref01_Text.vc (fun y0 y1 => R ⟨O_rectoref01_Text, (y0, y1, ())⟩) s := by kernel_rfl
theorem fs_rectoref01_Text : CtrsOk Try.prog [(75, [c_rectoref01_Plain])] := ⟨ctr1 (ctr_rectoref01_Plain), trivial⟩
theorem vc_rectoref01_Text (H : Nat → Entry) (v : c_rectoref01_Text.inp.V) (r : (p : Pat) × p.V) (h : (c_rectoref01_Text.body v).Sel H r) : fnVc (cx_rectoref01_Text) an_rectoref01_Text 0 Try.f77 c_rectoref01_Text.inp [O_rectoref01_Text] v (fun r' => r' = r) := by
  obtain ⟨s, ⟨⟩⟩ := v
  obtain rfl := h
  exact Eq.mpr (eq_rectoref01_Text s _) (rectoref01_Text.ok _ s  rfl)
theorem ctr_rectoref01_Text : CtrOk Try.prog 77 c_rectoref01_Text := ⟨⟨_, Try.func77, by kernel_rfl, by kernel_rfl⟩, fun H v r h => mk_ok _ (fs_rectoref01_Text) (an := an_rectoref01_Text) (outs := [O_rectoref01_Text]) Try.func77 (by decide) (vc_rectoref01_Text H v r h)⟩
abbrev I_rectoref01_num : Pat := { slots := [(0, .ce (.v .str)), (1, .ce (.v (.int .i64)))], ents := [] }
abbrev O_rectoref01_num : Pat := { slots := [(0, .ag (.pair (.int .i64) (.int .i64)))], ents := [] }
def c_rectoref01_num : Ctr := { k0 := 0, inp := I_rectoref01_num, body := fun v => .need (Sp.numAt.pre v.1 v.2.1) (.ret ⟨O_rectoref01_num, ((Sp.numAt v.1 v.2.1), ())⟩), ex := 0 }
def an_rectoref01_num : Ann := [(8, { slots := [(0, .ce (.v .str)), (1, .ce (.v (.int .i64))), (4, .ce (.ptr 0 0)), (5, .ce (.v (.int .i64))), (6, .ce (.v (.int .i64))), (7, .ce (.v (.int .i64)))], ents := [.box 176 [.v (.int .i64), .v (.int .i64)]] })]
def cx_rectoref01_num : Cx := mkCx []
theorem eq_rectoref01_num (b : Str) (i : Int) (R : ((p : Pat) × p.V) → Prop) : fnVc (cx_rectoref01_num) an_rectoref01_num 0 Try.f105 I_rectoref01_num [O_rectoref01_num] (b, i, ()) R = rectoref01_num.vc (fun y0 => R ⟨O_rectoref01_num, (y0, ())⟩) b i := by kernel_rfl
theorem fs_rectoref01_num : CtrsOk Try.prog [] := trivial
theorem vc_rectoref01_num (H : Nat → Entry) (v : c_rectoref01_num.inp.V) (r : (p : Pat) × p.V) (h : (c_rectoref01_num.body v).Sel H r) : fnVc (cx_rectoref01_num) an_rectoref01_num 0 Try.f105 c_rectoref01_num.inp [O_rectoref01_num] v (fun r' => r' = r) := by
  obtain ⟨b, i, ⟨⟩⟩ := v
  obtain ⟨h, rfl⟩ := h
  exact Eq.mpr (eq_rectoref01_num b i _) (rectoref01_num.ok _ b i h rfl)
theorem ctr_rectoref01_num : CtrOk Try.prog 105 c_rectoref01_num := ⟨⟨_, Try.func105, by kernel_rfl, by kernel_rfl⟩, fun H v r h => mk_ok _ (fs_rectoref01_num) (an := an_rectoref01_num) (outs := [O_rectoref01_num]) Try.func105 (by decide) (vc_rectoref01_num H v r h)⟩
abbrev I_rectoref01_TakeText : Pat := { slots := [(0, .ce (.v .str))], ents := [] }
abbrev O_rectoref01_TakeText : Pat := { slots := [(0, .ag (.pair (.int .i64) (.pair .str (.pair (.sl .str) (.pair .str (.int .i64))))))], ents := [] }
def c_rectoref01_TakeText : Ctr := { k0 := 0, inp := I_rectoref01_TakeText, body := fun v => .need (Sp.takenT.pre v.1) (.ret ⟨O_rectoref01_TakeText, ((Sp.takenT v.1), ())⟩), ex := 0 }
def an_rectoref01_TakeText : Ann := []
def cx_rectoref01_TakeText : Cx := mkCx [(105, [c_rectoref01_num])]
theorem eq_rectoref01_TakeText (b : Str) (R : ((p : Pat) × p.V) → Prop) : fnVc (cx_rectoref01_TakeText) an_rectoref01_TakeText 0 Try.f90 I_rectoref01_TakeText [O_rectoref01_TakeText] (b, ()) R = rectoref01_TakeText.vc (fun y0 => R ⟨O_rectoref01_TakeText, (y0, ())⟩) b := by kernel_rfl
theorem fs_rectoref01_TakeText : CtrsOk Try.prog [(105, [c_rectoref01_num])] := ⟨ctr1 (ctr_rectoref01_num), trivial⟩
theorem vc_rectoref01_TakeText (H : Nat → Entry) (v : c_rectoref01_TakeText.inp.V) (r : (p : Pat) × p.V) (h : (c_rectoref01_TakeText.body v).Sel H r) : fnVc (cx_rectoref01_TakeText) an_rectoref01_TakeText 0 Try.f90 c_rectoref01_TakeText.inp [O_rectoref01_TakeText] v (fun r' => r' = r) := by
  obtain ⟨b, ⟨⟩⟩ := v
  obtain ⟨h, rfl⟩ := h
  exact Eq.mpr (eq_rectoref01_TakeText b _) (rectoref01_TakeText.ok _ b h rfl)
theorem ctr_rectoref01_TakeText : CtrOk Try.prog 90 c_rectoref01_TakeText := ⟨⟨_, Try.func90, by kernel_rfl, by kernel_rfl⟩, fun H v r h => mk_ok _ (fs_rectoref01_TakeText) (an := an_rectoref01_TakeText) (outs := [O_rectoref01_TakeText]) Try.func90 (by decide) (vc_rectoref01_TakeText H v r h)⟩
abbrev I_rectoplain_Texts : Pat := { slots := [(0, .ce (.v (.sl .str))), (1, .ce (.v (.sl .str)))], ents := [] }
abbrev O_rectoplain_Texts : Pat := { slots := [(0, .ce (.v .bool))], ents := [] }
def c_rectoplain_Texts : Ctr := { k0 := 0, inp := I_rectoplain_Texts, body := fun v => .need (Sp.eqL.pre v.1 v.2.1) (.ret ⟨O_rectoplain_Texts, ((Sp.eqL v.1 v.2.1), ())⟩), ex := 0 }
def an_rectoplain_Texts : Ann := [(2, { slots := [(0, .ce (.v (.sl .str))), (1, .ce (.v (.sl .str))), (7, .ce (.v (.int .i64))), (8, .ce (.v (.int .i64)))], ents := [] })]
def cx_rectoplain_Texts : Cx := mkCx []
theorem eq_rectoplain_Texts (a : (List Str)) (b : (List Str)) (R : ((p : Pat) × p.V) → Prop) : fnVc (cx_rectoplain_Texts) an_rectoplain_Texts 0 Try.f18 I_rectoplain_Texts [O_rectoplain_Texts] (a, b, ()) R = rectoplain_Texts.vc (fun y0 => R ⟨O_rectoplain_Texts, (y0, ())⟩) a b := by kernel_rfl
theorem fs_rectoplain_Texts : CtrsOk Try.prog [] := trivial
theorem vc_rectoplain_Texts (H : Nat → Entry) (v : c_rectoplain_Texts.inp.V) (r : (p : Pat) × p.V) (h : (c_rectoplain_Texts.body v).Sel H r) : fnVc (cx_rectoplain_Texts) an_rectoplain_Texts 0 Try.f18 c_rectoplain_Texts.inp [O_rectoplain_Texts] v (fun r' => r' = r) := by
  obtain ⟨a, b, ⟨⟩⟩ := v
  obtain ⟨h, rfl⟩ := h
  exact Eq.mpr (eq_rectoplain_Texts a b _) (rectoplain_Texts.ok _ a b h rfl)
theorem ctr_rectoplain_Texts : CtrOk Try.prog 18 c_rectoplain_Texts := ⟨⟨_, Try.func18, by kernel_rfl, by kernel_rfl⟩, fun H v r h => mk_ok _ (fs_rectoplain_Texts) (an := an_rectoplain_Texts) (outs := [O_rectoplain_Texts]) Try.func18 (by decide) (vc_rectoplain_Texts H v r h)⟩
end Vs
