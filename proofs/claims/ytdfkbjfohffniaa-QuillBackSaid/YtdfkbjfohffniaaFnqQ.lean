/- Functions held against what they tell. Written by a program of this session. -/
import Derived.Test.YtdfkbjfohffniaaPlQ
import Derived.Test.YtdfkbjfohffniaaViTwo
import Derived.Test.YtdfkbjfohffniaaTabq
set_option linter.unnecessarySimpa false
set_option linter.unusedVariables false
set_option linter.unusedSectionVars false
set_option linter.unusedSimpArgs false
set_option autoImplicit false
set_option linter.unusedVariables false
set_option maxRecDepth 100000
attribute [local irreducible] Vi.fnVc
namespace Vs
open Go Vi Go.Proofs
abbrev I_strings_Builder_WriteString : Pat := { slots := [(0, .ce (.ptr 0 0)), (1, .ce (.v .str))], ents := [.box 59 [.pn 0, .os 1], .row 5 (.int .u8)] }
abbrev O_strings_Builder_WriteString : Pat := { slots := [(0, .ce (.v (.int .i64))), (1, .ce .z)], ents := [.box 59 [.pn 0, .os 1], .row 5 (.int .u8)] }
def c_strings_Builder_WriteString : Ctr := { k0 := 1, inp := I_strings_Builder_WriteString, body := fun v => .need (Sp.wr.pre v.2.1 v.1) (.ret ⟨O_strings_Builder_WriteString, ((v.1.length : Int), Sp.wr v.2.1 v.1, ())⟩) }
def an_strings_Builder_WriteString : Ann := []
def cx_strings_Builder_WriteString : Cx := mkCx []
theorem eq_strings_Builder_WriteString (s : Str) (x : (List Int)) (R : ((p : Pat) × p.V) → Prop) : fnVc (cx_strings_Builder_WriteString) an_strings_Builder_WriteString 1 Try.f30 I_strings_Builder_WriteString [O_strings_Builder_WriteString] (s, x, ()) R = strings_Builder_WriteString.vc (fun y0 y1 => R ⟨O_strings_Builder_WriteString, (y0, y1, ())⟩) s x := by kernel_rfl
theorem fs_strings_Builder_WriteString : CtrsOk Try.prog [] := trivial
theorem vc_strings_Builder_WriteString (H : Nat → Entry) (v : c_strings_Builder_WriteString.inp.V) (r : (p : Pat) × p.V) (h : (c_strings_Builder_WriteString.body v).Sel H r) : fnVc (cx_strings_Builder_WriteString) an_strings_Builder_WriteString 1 Try.f30 c_strings_Builder_WriteString.inp [O_strings_Builder_WriteString] v (fun r' => r' = r) := by
  obtain ⟨s, x, ⟨⟩⟩ := v
  obtain ⟨h, rfl⟩ := h
  exact Eq.mpr (eq_strings_Builder_WriteString s x _) (strings_Builder_WriteString.ok _ s x h rfl)
theorem ctr_strings_Builder_WriteString : CtrOk Try.prog 30 c_strings_Builder_WriteString := ⟨⟨_, Try.func30, by kernel_rfl, by kernel_rfl⟩, fun H v r h => mk_ok _ (fs_strings_Builder_WriteString) (an := an_strings_Builder_WriteString) (outs := [O_strings_Builder_WriteString]) Try.func30 (by decide) (vc_strings_Builder_WriteString H v r h)⟩
abbrev I_strings_Builder_String : Pat := { slots := [(0, .ce (.ptr 0 0))], ents := [.box 59 [.pn 0, .os 1], .row 5 (.int .u8)] }
abbrev O_strings_Builder_String : Pat := { slots := [(0, .ce (.v .str))], ents := [.box 59 [.pn 0, .z]] }
def c_strings_Builder_String : Ctr := { k0 := 1, inp := I_strings_Builder_String, body := fun v => .ret ⟨O_strings_Builder_String, (bytesOf v.1, ())⟩ }
def an_strings_Builder_String : Ann := []
def cx_strings_Builder_String : Cx := mkCx []
theorem eq_strings_Builder_String (x : (List Int)) (R : ((p : Pat) × p.V) → Prop) : fnVc (cx_strings_Builder_String) an_strings_Builder_String 1 Try.f31 I_strings_Builder_String [O_strings_Builder_String] (x, ()) R = strings_Builder_String.vc (fun y0 => R ⟨O_strings_Builder_String, (y0, ())⟩) x := by kernel_rfl
theorem fs_strings_Builder_String : CtrsOk Try.prog [] := trivial
theorem vc_strings_Builder_String (H : Nat → Entry) (v : c_strings_Builder_String.inp.V) (r : (p : Pat) × p.V) (h : (c_strings_Builder_String.body v).Sel H r) : fnVc (cx_strings_Builder_String) an_strings_Builder_String 1 Try.f31 c_strings_Builder_String.inp [O_strings_Builder_String] v (fun r' => r' = r) := by
  obtain ⟨x, ⟨⟩⟩ := v
  obtain rfl := h
  exact Eq.mpr (eq_strings_Builder_String x _) (strings_Builder_String.ok _ x  rfl)
theorem ctr_strings_Builder_String : CtrOk Try.prog 31 c_strings_Builder_String := ⟨⟨_, Try.func31, by kernel_rfl, by kernel_rfl⟩, fun H v r h => mk_ok _ (fs_strings_Builder_String) (an := an_strings_Builder_String) (outs := [O_strings_Builder_String]) Try.func31 (by decide) (vc_strings_Builder_String H v r h)⟩
abbrev I_quill_digits : Pat := { slots := [(0, .ce (.v (.int .i64)))], ents := [] }
abbrev O_quill_digits : Pat := { slots := [(0, .ce (.v .str))], ents := [] }
def c_quill_digits (nn : Nat) : Ctr := { k0 := 0, inp := I_quill_digits, body := fun v => .need (Sp.digs.pre v.1 ∧ Sp.digm v.1 < nn) (.ret ⟨O_quill_digits, ((Sp.digs v.1), ())⟩) }
def an_quill_digits : Ann := []
def cx_quill_digits (nn : Nat) : Cx := mkCx [(27, [c_quill_digits nn])]
theorem eq_quill_digits (nn : Nat) (n : Int) (R : ((p : Pat) × p.V) → Prop) : fnVc (cx_quill_digits nn) an_quill_digits 0 Try.f27 I_quill_digits [O_quill_digits] (n, ()) R = quill_digits.vc (fun y0 => R ⟨O_quill_digits, (y0, ())⟩) nn n := by kernel_rfl
theorem fs_quill_digits (nn : Nat) (ih : CtrOk Try.prog 27 (c_quill_digits nn)) : CtrsOk Try.prog [(27, [c_quill_digits nn])] := ⟨ctr1 ih, trivial⟩
theorem ctr_quill_digits (nn : Nat) : CtrOk Try.prog 27 (c_quill_digits nn) := by
  induction nn with
  | zero => exact ⟨⟨_, Try.func27, by kernel_rfl, by kernel_rfl⟩, fun H v r h => absurd h.1.2 (Nat.not_lt_zero _)⟩
  | succ nn ih =>
  refine ⟨⟨_, Try.func27, by kernel_rfl, by kernel_rfl⟩, ?_⟩
  intro H v r h
  obtain ⟨n, ⟨⟩⟩ := v
  obtain ⟨h, rfl⟩ := h
  exact mk_ok _ (fs_quill_digits nn ih) (an := an_quill_digits) (outs := [O_quill_digits]) Try.func27 (Nat.le_of_ble_eq_true rfl) (Eq.mpr (eq_quill_digits nn n _) (quill_digits.ok nn _ n h rfl))
abbrev I_quill_Num : Pat := { slots := [(0, .ce (.v (.int .i64)))], ents := [] }
abbrev O_quill_Num : Pat := { slots := [(0, .ce (.v .str)), (1, .ce (.v (.int .i64)))], ents := [] }
def c_quill_Num : Ctr := { k0 := 0, inp := I_quill_Num, body := fun v => .ret ⟨O_quill_Num, ((Sp.numP v.1).1, (Sp.numP v.1).2, ())⟩ }
def an_quill_Num : Ann := []
def cx_quill_Num : Cx := mkCx [(27, [c_quill_digits 1099511627778])]
theorem eq_quill_Num (n : Int) (R : ((p : Pat) × p.V) → Prop) : fnVc (cx_quill_Num) an_quill_Num 0 Try.f12 I_quill_Num [O_quill_Num] (n, ()) R = quill_Num.vc (fun y0 y1 => R ⟨O_quill_Num, (y0, y1, ())⟩) n := by kernel_rfl
theorem fs_quill_Num : CtrsOk Try.prog [(27, [c_quill_digits 1099511627778])] := ⟨ctr1 (ctr_quill_digits 1099511627778), trivial⟩
theorem vc_quill_Num (H : Nat → Entry) (v : c_quill_Num.inp.V) (r : (p : Pat) × p.V) (h : (c_quill_Num.body v).Sel H r) : fnVc (cx_quill_Num) an_quill_Num 0 Try.f12 c_quill_Num.inp [O_quill_Num] v (fun r' => r' = r) := by
  obtain ⟨n, ⟨⟩⟩ := v
  obtain rfl := h
  exact Eq.mpr (eq_quill_Num n _) (quill_Num.ok _ n  rfl)
theorem ctr_quill_Num : CtrOk Try.prog 12 c_quill_Num := ⟨⟨_, Try.func12, by kernel_rfl, by kernel_rfl⟩, fun H v r h => mk_ok _ (fs_quill_Num) (an := an_quill_Num) (outs := [O_quill_Num]) Try.func12 (by decide) (vc_quill_Num H v r h)⟩
abbrev I_quill_joined : Pat := { slots := [(0, .ce (.v (.sl .str)))], ents := [] }
abbrev O_quill_joined : Pat := { slots := [(0, .ce (.v .str)), (1, .ce (.v (.int .i64)))], ents := [] }
def c_quill_joined : Ctr := { k0 := 0, inp := I_quill_joined, body := fun v => .need (Sp.joinedP.pre v.1) (.ret ⟨O_quill_joined, ((Sp.joinedP v.1).1, (Sp.joinedP v.1).2, ())⟩) }
def an_quill_joined : Ann := [(3, { slots := [(4, .ce (.ptr 0 0)), (9, .ce (.v (.sl .str))), (10, .ce (.v (.int .i64))), (11, .ce (.v (.int .i64)))], ents := [.box 59 [.pn 0, .os 1], .row 5 (.int .u8)] })]
def cx_quill_joined : Cx := mkCx [(12, [c_quill_Num]), (30, [c_strings_Builder_WriteString]), (31, [c_strings_Builder_String])]
theorem eq_quill_joined (l : (List Str)) (R : ((p : Pat) × p.V) → Prop) : fnVc (cx_quill_joined) an_quill_joined 0 Try.f29 I_quill_joined [O_quill_joined] (l, ()) R = quill_joined.vc (fun y0 y1 => R ⟨O_quill_joined, (y0, y1, ())⟩) l := by kernel_rfl
theorem fs_quill_joined : CtrsOk Try.prog [(12, [c_quill_Num]), (30, [c_strings_Builder_WriteString]), (31, [c_strings_Builder_String])] := ⟨ctr1 (ctr_quill_Num), ctr1 (ctr_strings_Builder_WriteString), ctr1 (ctr_strings_Builder_String), trivial⟩
theorem vc_quill_joined (H : Nat → Entry) (v : c_quill_joined.inp.V) (r : (p : Pat) × p.V) (h : (c_quill_joined.body v).Sel H r) : fnVc (cx_quill_joined) an_quill_joined 0 Try.f29 c_quill_joined.inp [O_quill_joined] v (fun r' => r' = r) := by
  obtain ⟨l, ⟨⟩⟩ := v
  obtain ⟨h, rfl⟩ := h
  exact Eq.mpr (eq_quill_joined l _) (quill_joined.ok _ l h rfl)
theorem ctr_quill_joined : CtrOk Try.prog 29 c_quill_joined := ⟨⟨_, Try.func29, by kernel_rfl, by kernel_rfl⟩, fun H v r h => mk_ok _ (fs_quill_joined) (an := an_quill_joined) (outs := [O_quill_joined]) Try.func29 (by decide) (vc_quill_joined H v r h)⟩
abbrev I_quill_Text : Pat := { slots := [(0, .ce (.v .str))], ents := [] }
abbrev O_quill_Text : Pat := { slots := [(0, .ce (.v .str)), (1, .ce (.v (.int .i64)))], ents := [] }
def c_quill_Text : Ctr := { k0 := 0, inp := I_quill_Text, body := fun v => .ret ⟨O_quill_Text, ((Sp.textP v.1).1, (Sp.textP v.1).2, ())⟩ }
def an_quill_Text : Ann := []
def cx_quill_Text : Cx := mkCx [(29, [c_quill_joined])]
theorem eq_quill_Text (s : Str) (R : ((p : Pat) × p.V) → Prop) : fnVc (cx_quill_Text) an_quill_Text 0 Try.f16 I_quill_Text [O_quill_Text] (s, ()) R = quill_Text.vc (fun y0 y1 => R ⟨O_quill_Text, (y0, y1, ())⟩) s := by kernel_rfl
theorem fs_quill_Text : CtrsOk Try.prog [(29, [c_quill_joined])] := ⟨ctr1 (ctr_quill_joined), trivial⟩
theorem vc_quill_Text (H : Nat → Entry) (v : c_quill_Text.inp.V) (r : (p : Pat) × p.V) (h : (c_quill_Text.body v).Sel H r) : fnVc (cx_quill_Text) an_quill_Text 0 Try.f16 c_quill_Text.inp [O_quill_Text] v (fun r' => r' = r) := by
  obtain ⟨s, ⟨⟩⟩ := v
  obtain rfl := h
  exact Eq.mpr (eq_quill_Text s _) (quill_Text.ok _ s  rfl)
theorem ctr_quill_Text : CtrOk Try.prog 16 c_quill_Text := ⟨⟨_, Try.func16, by kernel_rfl, by kernel_rfl⟩, fun H v r h => mk_ok _ (fs_quill_Text) (an := an_quill_Text) (outs := [O_quill_Text]) Try.func16 (by decide) (vc_quill_Text H v r h)⟩
abbrev I_quill_List : Pat := { slots := [(0, .ce (.v (.sl .str)))], ents := [] }
abbrev O_quill_List : Pat := { slots := [(0, .ce (.v .str)), (1, .ce (.v (.int .i64)))], ents := [] }
def c_quill_List : Ctr := { k0 := 0, inp := I_quill_List, body := fun v => .need (Sp.listP.pre v.1) (.ret ⟨O_quill_List, ((Sp.listP v.1).1, (Sp.listP v.1).2, ())⟩) }
def an_quill_List : Ann := []
def cx_quill_List : Cx := mkCx [(29, [c_quill_joined]), (12, [c_quill_Num])]
theorem eq_quill_List (l : (List Str)) (R : ((p : Pat) × p.V) → Prop) : fnVc (cx_quill_List) an_quill_List 0 Try.f18 I_quill_List [O_quill_List] (l, ()) R = quill_List.vc (fun y0 y1 => R ⟨O_quill_List, (y0, y1, ())⟩) l := by kernel_rfl
theorem fs_quill_List : CtrsOk Try.prog [(29, [c_quill_joined]), (12, [c_quill_Num])] := ⟨ctr1 (ctr_quill_joined), ctr1 (ctr_quill_Num), trivial⟩
theorem vc_quill_List (H : Nat → Entry) (v : c_quill_List.inp.V) (r : (p : Pat) × p.V) (h : (c_quill_List.body v).Sel H r) : fnVc (cx_quill_List) an_quill_List 0 Try.f18 c_quill_List.inp [O_quill_List] v (fun r' => r' = r) := by
  obtain ⟨l, ⟨⟩⟩ := v
  obtain ⟨h, rfl⟩ := h
  exact Eq.mpr (eq_quill_List l _) (quill_List.ok _ l h rfl)
theorem ctr_quill_List : CtrOk Try.prog 18 c_quill_List := ⟨⟨_, Try.func18, by kernel_rfl, by kernel_rfl⟩, fun H v r h => mk_ok _ (fs_quill_List) (an := an_quill_List) (outs := [O_quill_List]) Try.func18 (by decide) (vc_quill_List H v r h)⟩
abbrev I_quill_TakeNum : Pat := { slots := [(0, .ce (.v .str))], ents := [] }
abbrev O_quill_TakeNum : Pat := { slots := [(0, .ce (.v (.int .i64))), (1, .ce (.v .str)), (2, .ce (.v (.int .i64)))], ents := [] }
def c_quill_TakeNum : Ctr := { k0 := 0, inp := I_quill_TakeNum, body := fun v => .need (Sp.takeNum.pre v.1) (.ret ⟨O_quill_TakeNum, ((Sp.takeNum v.1).1, (Sp.takeNum v.1).2.1, (Sp.takeNum v.1).2.2, ())⟩) }
def an_quill_TakeNum : Ann := [(6, { slots := [(5, .ce (.v .str)), (6, .ce (.v .str)), (7, .ce (.v (.int .i64))), (39, .ce (.v (.int .i64))), (40, .ce (.v (.int .i64)))], ents := [] })]
def cx_quill_TakeNum : Cx := mkCx []
theorem eq_quill_TakeNum (b : Str) (R : ((p : Pat) × p.V) → Prop) : fnVc (cx_quill_TakeNum) an_quill_TakeNum 0 Try.f9 I_quill_TakeNum [O_quill_TakeNum] (b, ()) R = quill_TakeNum.vc (fun y0 y1 y2 => R ⟨O_quill_TakeNum, (y0, y1, y2, ())⟩) b := by kernel_rfl
theorem fs_quill_TakeNum : CtrsOk Try.prog [] := trivial
theorem vc_quill_TakeNum (H : Nat → Entry) (v : c_quill_TakeNum.inp.V) (r : (p : Pat) × p.V) (h : (c_quill_TakeNum.body v).Sel H r) : fnVc (cx_quill_TakeNum) an_quill_TakeNum 0 Try.f9 c_quill_TakeNum.inp [O_quill_TakeNum] v (fun r' => r' = r) := by
  obtain ⟨b, ⟨⟩⟩ := v
  obtain ⟨h, rfl⟩ := h
  exact Eq.mpr (eq_quill_TakeNum b _) (quill_TakeNum.ok _ b h rfl)
theorem ctr_quill_TakeNum : CtrOk Try.prog 9 c_quill_TakeNum := ⟨⟨_, Try.func9, by kernel_rfl, by kernel_rfl⟩, fun H v r h => mk_ok _ (fs_quill_TakeNum) (an := an_quill_TakeNum) (outs := [O_quill_TakeNum]) Try.func9 (by decide) (vc_quill_TakeNum H v r h)⟩
abbrev I_quill_TakeText : Pat := { slots := [(0, .ce (.v .str))], ents := [] }
abbrev O_quill_TakeText : Pat := { slots := [(0, .ce (.v .str)), (1, .ce (.v .str)), (2, .ce (.v (.int .i64)))], ents := [] }
def c_quill_TakeText : Ctr := { k0 := 0, inp := I_quill_TakeText, body := fun v => .need (Sp.takeText.pre v.1) (.ret ⟨O_quill_TakeText, ((Sp.takeText v.1).1, (Sp.takeText v.1).2.1, (Sp.takeText v.1).2.2, ())⟩) }
def an_quill_TakeText : Ann := []
def cx_quill_TakeText : Cx := mkCx [(9, [c_quill_TakeNum])]
theorem eq_quill_TakeText (b : Str) (R : ((p : Pat) × p.V) → Prop) : fnVc (cx_quill_TakeText) an_quill_TakeText 0 Try.f22 I_quill_TakeText [O_quill_TakeText] (b, ()) R = quill_TakeText.vc (fun y0 y1 y2 => R ⟨O_quill_TakeText, (y0, y1, y2, ())⟩) b := by kernel_rfl
theorem fs_quill_TakeText : CtrsOk Try.prog [(9, [c_quill_TakeNum])] := ⟨ctr1 (ctr_quill_TakeNum), trivial⟩
theorem vc_quill_TakeText (H : Nat → Entry) (v : c_quill_TakeText.inp.V) (r : (p : Pat) × p.V) (h : (c_quill_TakeText.body v).Sel H r) : fnVc (cx_quill_TakeText) an_quill_TakeText 0 Try.f22 c_quill_TakeText.inp [O_quill_TakeText] v (fun r' => r' = r) := by
  obtain ⟨b, ⟨⟩⟩ := v
  obtain ⟨h, rfl⟩ := h
  exact Eq.mpr (eq_quill_TakeText b _) (quill_TakeText.ok _ b h rfl)
theorem ctr_quill_TakeText : CtrOk Try.prog 22 c_quill_TakeText := ⟨⟨_, Try.func22, by kernel_rfl, by kernel_rfl⟩, fun H v r h => mk_ok _ (fs_quill_TakeText) (an := an_quill_TakeText) (outs := [O_quill_TakeText]) Try.func22 (by decide) (vc_quill_TakeText H v r h)⟩
abbrev I_quill_TakeList : Pat := { slots := [(0, .ce (.v .str))], ents := [] }
abbrev O_quill_TakeList : Pat := { slots := [(0, .ce (.v (.sl .str))), (1, .ce (.v .str)), (2, .ce (.v (.int .i64)))], ents := [] }
def c_quill_TakeList : Ctr := { k0 := 0, inp := I_quill_TakeList, body := fun v => .need (Sp.takeList.pre v.1) (.ret ⟨O_quill_TakeList, ((Sp.takeList v.1).1, (Sp.takeList v.1).2.1, (Sp.takeList v.1).2.2, ())⟩) }
def an_quill_TakeList : Ann := [(6, { slots := [(6, .ce (.v .str)), (8, .ce (.os 0)), (22, .ce (.v (.int .i64))), (23, .ce (.v (.int .i64)))], ents := [.row 9 .str] })]
def cx_quill_TakeList : Cx := mkCx [(9, [c_quill_TakeNum]), (22, [c_quill_TakeText])]
theorem eq_quill_TakeList (b : Str) (R : ((p : Pat) × p.V) → Prop) : fnVc (cx_quill_TakeList) an_quill_TakeList 0 Try.f24 I_quill_TakeList [O_quill_TakeList] (b, ()) R = quill_TakeList.vc (fun y0 y1 y2 => R ⟨O_quill_TakeList, (y0, y1, y2, ())⟩) b := by kernel_rfl
theorem fs_quill_TakeList : CtrsOk Try.prog [(9, [c_quill_TakeNum]), (22, [c_quill_TakeText])] := ⟨ctr1 (ctr_quill_TakeNum), ctr1 (ctr_quill_TakeText), trivial⟩
theorem vc_quill_TakeList (H : Nat → Entry) (v : c_quill_TakeList.inp.V) (r : (p : Pat) × p.V) (h : (c_quill_TakeList.body v).Sel H r) : fnVc (cx_quill_TakeList) an_quill_TakeList 0 Try.f24 c_quill_TakeList.inp [O_quill_TakeList] v (fun r' => r' = r) := by
  obtain ⟨b, ⟨⟩⟩ := v
  obtain ⟨h, rfl⟩ := h
  exact Eq.mpr (eq_quill_TakeList b _) (quill_TakeList.ok _ b h rfl)
theorem ctr_quill_TakeList : CtrOk Try.prog 24 c_quill_TakeList := ⟨⟨_, Try.func24, by kernel_rfl, by kernel_rfl⟩, fun H v r h => mk_ok _ (fs_quill_TakeList) (an := an_quill_TakeList) (outs := [O_quill_TakeList]) Try.func24 (by decide) (vc_quill_TakeList H v r h)⟩
abbrev I_rectoref01_Size : Pat := { slots := [(0, .ce (.v (.int .i64)))], ents := [] }
abbrev O_rectoref01_Size : Pat := { slots := [(0, .ce (.v (.int .i64)))], ents := [] }
def c_rectoref01_Size : Ctr := { k0 := 0, inp := I_rectoref01_Size, body := fun v => .need (Sp.sizeN.pre v.1) (.ret ⟨O_rectoref01_Size, ((Sp.sizeN v.1), ())⟩) }
def an_rectoref01_Size : Ann := [(3, { slots := [(3, .ce (.v (.int .i64))), (4, .ce (.v (.int .i64)))], ents := [] })]
def cx_rectoref01_Size : Cx := mkCx []
theorem eq_rectoref01_Size (n : Int) (R : ((p : Pat) × p.V) → Prop) : fnVc (cx_rectoref01_Size) an_rectoref01_Size 0 Try.f13 I_rectoref01_Size [O_rectoref01_Size] (n, ()) R = rectoref01_Size.vc (fun y0 => R ⟨O_rectoref01_Size, (y0, ())⟩) n := by kernel_rfl
theorem fs_rectoref01_Size : CtrsOk Try.prog [] := trivial
theorem vc_rectoref01_Size (H : Nat → Entry) (v : c_rectoref01_Size.inp.V) (r : (p : Pat) × p.V) (h : (c_rectoref01_Size.body v).Sel H r) : fnVc (cx_rectoref01_Size) an_rectoref01_Size 0 Try.f13 c_rectoref01_Size.inp [O_rectoref01_Size] v (fun r' => r' = r) := by
  obtain ⟨n, ⟨⟩⟩ := v
  obtain ⟨h, rfl⟩ := h
  exact Eq.mpr (eq_rectoref01_Size n _) (rectoref01_Size.ok _ n h rfl)
theorem ctr_rectoref01_Size : CtrOk Try.prog 13 c_rectoref01_Size := ⟨⟨_, Try.func13, by kernel_rfl, by kernel_rfl⟩, fun H v r h => mk_ok _ (fs_rectoref01_Size) (an := an_rectoref01_Size) (outs := [O_rectoref01_Size]) Try.func13 (by decide) (vc_rectoref01_Size H v r h)⟩
abbrev I_rectoref01_Plain : Pat := { slots := [(0, .ce (.v (.int .i64)))], ents := [] }
abbrev O_rectoref01_Plain : Pat := { slots := [(0, .ce (.v .str))], ents := [] }
def c_rectoref01_Plain : Ctr := { k0 := 0, inp := I_rectoref01_Plain, body := fun v => .need (Sp.plain.pre v.1) (.ret ⟨O_rectoref01_Plain, ((Sp.plain v.1), ())⟩) }
def an_rectoref01_Plain : Ann := [(3, { slots := [(0, .ce (.v (.int .i64))), (3, .ce (.v .str)), (4, .ce (.v (.int .i64)))], ents := [] })]
def cx_rectoref01_Plain : Cx := mkCx [(13, [c_rectoref01_Size])]
theorem eq_rectoref01_Plain (n : Int) (R : ((p : Pat) × p.V) → Prop) : fnVc (cx_rectoref01_Plain) an_rectoref01_Plain 0 Try.f28 I_rectoref01_Plain [O_rectoref01_Plain] (n, ()) R = rectoref01_Plain.vc (fun y0 => R ⟨O_rectoref01_Plain, (y0, ())⟩) n := by kernel_rfl
theorem fs_rectoref01_Plain : CtrsOk Try.prog [(13, [c_rectoref01_Size])] := ⟨ctr1 (ctr_rectoref01_Size), trivial⟩
theorem vc_rectoref01_Plain (H : Nat → Entry) (v : c_rectoref01_Plain.inp.V) (r : (p : Pat) × p.V) (h : (c_rectoref01_Plain.body v).Sel H r) : fnVc (cx_rectoref01_Plain) an_rectoref01_Plain 0 Try.f28 c_rectoref01_Plain.inp [O_rectoref01_Plain] v (fun r' => r' = r) := by
  obtain ⟨n, ⟨⟩⟩ := v
  obtain ⟨h, rfl⟩ := h
  exact Eq.mpr (eq_rectoref01_Plain n _) (rectoref01_Plain.ok _ n h rfl)
theorem ctr_rectoref01_Plain : CtrOk Try.prog 28 c_rectoref01_Plain := ⟨⟨_, Try.func28, by kernel_rfl, by kernel_rfl⟩, fun H v r h => mk_ok _ (fs_rectoref01_Plain) (an := an_rectoref01_Plain) (outs := [O_rectoref01_Plain]) Try.func28 (by decide) (vc_rectoref01_Plain H v r h)⟩
abbrev I_rectoref01_Num : Pat := { slots := [(0, .ce (.v (.int .i64)))], ents := [] }
abbrev O_rectoref01_Num : Pat := { slots := [(0, .ce (.v .str)), (1, .ce (.v (.int .i64)))], ents := [] }
def c_rectoref01_Num : Ctr := { k0 := 0, inp := I_rectoref01_Num, body := fun v => .ret ⟨O_rectoref01_Num, ((Sp.numP v.1).1, (Sp.numP v.1).2, ())⟩ }
def an_rectoref01_Num : Ann := []
def cx_rectoref01_Num : Cx := mkCx [(28, [c_rectoref01_Plain])]
theorem eq_rectoref01_Num (n : Int) (R : ((p : Pat) × p.V) → Prop) : fnVc (cx_rectoref01_Num) an_rectoref01_Num 0 Try.f15 I_rectoref01_Num [O_rectoref01_Num] (n, ()) R = rectoref01_Num.vc (fun y0 y1 => R ⟨O_rectoref01_Num, (y0, y1, ())⟩) n := by kernel_rfl
theorem fs_rectoref01_Num : CtrsOk Try.prog [(28, [c_rectoref01_Plain])] := ⟨ctr1 (ctr_rectoref01_Plain), trivial⟩
theorem vc_rectoref01_Num (H : Nat → Entry) (v : c_rectoref01_Num.inp.V) (r : (p : Pat) × p.V) (h : (c_rectoref01_Num.body v).Sel H r) : fnVc (cx_rectoref01_Num) an_rectoref01_Num 0 Try.f15 c_rectoref01_Num.inp [O_rectoref01_Num] v (fun r' => r' = r) := by
  obtain ⟨n, ⟨⟩⟩ := v
  obtain rfl := h
  exact Eq.mpr (eq_rectoref01_Num n _) (rectoref01_Num.ok _ n  rfl)
theorem ctr_rectoref01_Num : CtrOk Try.prog 15 c_rectoref01_Num := ⟨⟨_, Try.func15, by kernel_rfl, by kernel_rfl⟩, fun H v r h => mk_ok _ (fs_rectoref01_Num) (an := an_rectoref01_Num) (outs := [O_rectoref01_Num]) Try.func15 (by decide) (vc_rectoref01_Num H v r h)⟩
abbrev I_rectoref01_Text : Pat := { slots := [(0, .ce (.v .str))], ents := [] }
abbrev O_rectoref01_Text : Pat := { slots := [(0, .ce (.v .str)), (1, .ce (.v (.int .i64)))], ents := [] }
def c_rectoref01_Text : Ctr := { k0 := 0, inp := I_rectoref01_Text, body := fun v => .ret ⟨O_rectoref01_Text, ((Sp.textP v.1).1, (Sp.textP v.1).2, ())⟩ }
def an_rectoref01_Text : Ann := []
def cx_rectoref01_Text : Cx := mkCx [(28, [c_rectoref01_Plain])]
theorem eq_rectoref01_Text (s : Str) (R : ((p : Pat) × p.V) → Prop) : fnVc (cx_rectoref01_Text) an_rectoref01_Text 0 Try.f17 I_rectoref01_Text [O_rectoref01_Text] (s, ()) R = rectoref01_Text.vc (fun y0 y1 => R ⟨O_rectoref01_Text, (y0, y1, ())⟩) s := by kernel_rfl
theorem fs_rectoref01_Text : CtrsOk Try.prog [(28, [c_rectoref01_Plain])] := ⟨ctr1 (ctr_rectoref01_Plain), trivial⟩
theorem vc_rectoref01_Text (H : Nat → Entry) (v : c_rectoref01_Text.inp.V) (r : (p : Pat) × p.V) (h : (c_rectoref01_Text.body v).Sel H r) : fnVc (cx_rectoref01_Text) an_rectoref01_Text 0 Try.f17 c_rectoref01_Text.inp [O_rectoref01_Text] v (fun r' => r' = r) := by
  obtain ⟨s, ⟨⟩⟩ := v
  obtain rfl := h
  exact Eq.mpr (eq_rectoref01_Text s _) (rectoref01_Text.ok _ s  rfl)
theorem ctr_rectoref01_Text : CtrOk Try.prog 17 c_rectoref01_Text := ⟨⟨_, Try.func17, by kernel_rfl, by kernel_rfl⟩, fun H v r h => mk_ok _ (fs_rectoref01_Text) (an := an_rectoref01_Text) (outs := [O_rectoref01_Text]) Try.func17 (by decide) (vc_rectoref01_Text H v r h)⟩
abbrev I_rectoref01_List : Pat := { slots := [(0, .ce (.v (.sl .str)))], ents := [] }
abbrev O_rectoref01_List : Pat := { slots := [(0, .ce (.v .str)), (1, .ce (.v (.int .i64)))], ents := [] }
def c_rectoref01_List : Ctr := { k0 := 0, inp := I_rectoref01_List, body := fun v => .need (Sp.listP.pre v.1) (.ret ⟨O_rectoref01_List, ((Sp.listP v.1).1, (Sp.listP v.1).2, ())⟩) }
def an_rectoref01_List : Ann := [(5, { slots := [(4, .ce (.v .str)), (15, .ce (.v (.sl .str))), (16, .ce (.v (.int .i64))), (17, .ce (.v (.int .i64)))], ents := [] })]
def cx_rectoref01_List : Cx := mkCx [(28, [c_rectoref01_Plain]), (17, [c_rectoref01_Text])]
theorem eq_rectoref01_List (l : (List Str)) (R : ((p : Pat) × p.V) → Prop) : fnVc (cx_rectoref01_List) an_rectoref01_List 0 Try.f19 I_rectoref01_List [O_rectoref01_List] (l, ()) R = rectoref01_List.vc (fun y0 y1 => R ⟨O_rectoref01_List, (y0, y1, ())⟩) l := by kernel_rfl
theorem fs_rectoref01_List : CtrsOk Try.prog [(28, [c_rectoref01_Plain]), (17, [c_rectoref01_Text])] := ⟨ctr1 (ctr_rectoref01_Plain), ctr1 (ctr_rectoref01_Text), trivial⟩
theorem vc_rectoref01_List (H : Nat → Entry) (v : c_rectoref01_List.inp.V) (r : (p : Pat) × p.V) (h : (c_rectoref01_List.body v).Sel H r) : fnVc (cx_rectoref01_List) an_rectoref01_List 0 Try.f19 c_rectoref01_List.inp [O_rectoref01_List] v (fun r' => r' = r) := by
  obtain ⟨l, ⟨⟩⟩ := v
  obtain ⟨h, rfl⟩ := h
  exact Eq.mpr (eq_rectoref01_List l _) (rectoref01_List.ok _ l h rfl)
theorem ctr_rectoref01_List : CtrOk Try.prog 19 c_rectoref01_List := ⟨⟨_, Try.func19, by kernel_rfl, by kernel_rfl⟩, fun H v r h => mk_ok _ (fs_rectoref01_List) (an := an_rectoref01_List) (outs := [O_rectoref01_List]) Try.func19 (by decide) (vc_rectoref01_List H v r h)⟩
abbrev I_rectoref01_num : Pat := { slots := [(0, .ce (.v .str)), (1, .ce (.v (.int .i64)))], ents := [] }
abbrev O_rectoref01_num : Pat := { slots := [(0, .ag (.pair (.int .i64) (.int .i64)))], ents := [] }
def c_rectoref01_num : Ctr := { k0 := 0, inp := I_rectoref01_num, body := fun v => .need (Sp.numAt.pre v.1 v.2.1) (.ret ⟨O_rectoref01_num, ((Sp.numAt v.1 v.2.1), ())⟩) }
def an_rectoref01_num : Ann := [(8, { slots := [(0, .ce (.v .str)), (1, .ce (.v (.int .i64))), (4, .ce (.ptr 0 0)), (5, .ce (.v (.int .i64))), (6, .ce (.v (.int .i64))), (7, .ce (.v (.int .i64)))], ents := [.box 52 [.v (.int .i64), .v (.int .i64)]] })]
def cx_rectoref01_num : Cx := mkCx []
theorem eq_rectoref01_num (b : Str) (i : Int) (R : ((p : Pat) × p.V) → Prop) : fnVc (cx_rectoref01_num) an_rectoref01_num 0 Try.f26 I_rectoref01_num [O_rectoref01_num] (b, i, ()) R = rectoref01_num.vc (fun y0 => R ⟨O_rectoref01_num, (y0, ())⟩) b i := by kernel_rfl
theorem fs_rectoref01_num : CtrsOk Try.prog [] := trivial
theorem vc_rectoref01_num (H : Nat → Entry) (v : c_rectoref01_num.inp.V) (r : (p : Pat) × p.V) (h : (c_rectoref01_num.body v).Sel H r) : fnVc (cx_rectoref01_num) an_rectoref01_num 0 Try.f26 c_rectoref01_num.inp [O_rectoref01_num] v (fun r' => r' = r) := by
  obtain ⟨b, i, ⟨⟩⟩ := v
  obtain ⟨h, rfl⟩ := h
  exact Eq.mpr (eq_rectoref01_num b i _) (rectoref01_num.ok _ b i h rfl)
theorem ctr_rectoref01_num : CtrOk Try.prog 26 c_rectoref01_num := ⟨⟨_, Try.func26, by kernel_rfl, by kernel_rfl⟩, fun H v r h => mk_ok _ (fs_rectoref01_num) (an := an_rectoref01_num) (outs := [O_rectoref01_num]) Try.func26 (by decide) (vc_rectoref01_num H v r h)⟩
abbrev I_rectoref01_TakeNum : Pat := { slots := [(0, .ce (.v .str))], ents := [] }
abbrev O_rectoref01_TakeNum : Pat := { slots := [(0, .ag (.pair (.int .i64) (.pair .str (.pair (.sl .str) (.pair .str (.int .i64))))))], ents := [] }
def c_rectoref01_TakeNum : Ctr := { k0 := 0, inp := I_rectoref01_TakeNum, body := fun v => .need (Sp.takenN.pre v.1) (.ret ⟨O_rectoref01_TakeNum, ((Sp.takenN v.1), ())⟩) }
def an_rectoref01_TakeNum : Ann := []
def cx_rectoref01_TakeNum : Cx := mkCx [(26, [c_rectoref01_num])]
theorem eq_rectoref01_TakeNum (b : Str) (R : ((p : Pat) × p.V) → Prop) : fnVc (cx_rectoref01_TakeNum) an_rectoref01_TakeNum 0 Try.f10 I_rectoref01_TakeNum [O_rectoref01_TakeNum] (b, ()) R = rectoref01_TakeNum.vc (fun y0 => R ⟨O_rectoref01_TakeNum, (y0, ())⟩) b := by kernel_rfl
theorem fs_rectoref01_TakeNum : CtrsOk Try.prog [(26, [c_rectoref01_num])] := ⟨ctr1 (ctr_rectoref01_num), trivial⟩
theorem vc_rectoref01_TakeNum (H : Nat → Entry) (v : c_rectoref01_TakeNum.inp.V) (r : (p : Pat) × p.V) (h : (c_rectoref01_TakeNum.body v).Sel H r) : fnVc (cx_rectoref01_TakeNum) an_rectoref01_TakeNum 0 Try.f10 c_rectoref01_TakeNum.inp [O_rectoref01_TakeNum] v (fun r' => r' = r) := by
  obtain ⟨b, ⟨⟩⟩ := v
  obtain ⟨h, rfl⟩ := h
  exact Eq.mpr (eq_rectoref01_TakeNum b _) (rectoref01_TakeNum.ok _ b h rfl)
theorem ctr_rectoref01_TakeNum : CtrOk Try.prog 10 c_rectoref01_TakeNum := ⟨⟨_, Try.func10, by kernel_rfl, by kernel_rfl⟩, fun H v r h => mk_ok _ (fs_rectoref01_TakeNum) (an := an_rectoref01_TakeNum) (outs := [O_rectoref01_TakeNum]) Try.func10 (by decide) (vc_rectoref01_TakeNum H v r h)⟩
abbrev I_rectoref01_TakeText : Pat := { slots := [(0, .ce (.v .str))], ents := [] }
abbrev O_rectoref01_TakeText : Pat := { slots := [(0, .ag (.pair (.int .i64) (.pair .str (.pair (.sl .str) (.pair .str (.int .i64))))))], ents := [] }
def c_rectoref01_TakeText : Ctr := { k0 := 0, inp := I_rectoref01_TakeText, body := fun v => .need (Sp.takenT.pre v.1) (.ret ⟨O_rectoref01_TakeText, ((Sp.takenT v.1), ())⟩) }
def an_rectoref01_TakeText : Ann := []
def cx_rectoref01_TakeText : Cx := mkCx [(26, [c_rectoref01_num])]
theorem eq_rectoref01_TakeText (b : Str) (R : ((p : Pat) × p.V) → Prop) : fnVc (cx_rectoref01_TakeText) an_rectoref01_TakeText 0 Try.f23 I_rectoref01_TakeText [O_rectoref01_TakeText] (b, ()) R = rectoref01_TakeText.vc (fun y0 => R ⟨O_rectoref01_TakeText, (y0, ())⟩) b := by kernel_rfl
theorem fs_rectoref01_TakeText : CtrsOk Try.prog [(26, [c_rectoref01_num])] := ⟨ctr1 (ctr_rectoref01_num), trivial⟩
theorem vc_rectoref01_TakeText (H : Nat → Entry) (v : c_rectoref01_TakeText.inp.V) (r : (p : Pat) × p.V) (h : (c_rectoref01_TakeText.body v).Sel H r) : fnVc (cx_rectoref01_TakeText) an_rectoref01_TakeText 0 Try.f23 c_rectoref01_TakeText.inp [O_rectoref01_TakeText] v (fun r' => r' = r) := by
  obtain ⟨b, ⟨⟩⟩ := v
  obtain ⟨h, rfl⟩ := h
  exact Eq.mpr (eq_rectoref01_TakeText b _) (rectoref01_TakeText.ok _ b h rfl)
theorem ctr_rectoref01_TakeText : CtrOk Try.prog 23 c_rectoref01_TakeText := ⟨⟨_, Try.func23, by kernel_rfl, by kernel_rfl⟩, fun H v r h => mk_ok _ (fs_rectoref01_TakeText) (an := an_rectoref01_TakeText) (outs := [O_rectoref01_TakeText]) Try.func23 (by decide) (vc_rectoref01_TakeText H v r h)⟩
abbrev I_rectoref01_TakeList : Pat := { slots := [(0, .ce (.v .str))], ents := [] }
abbrev O_rectoref01_TakeList : Pat := { slots := [(0, .ag (.pair (.int .i64) (.pair .str (.pair (.sl .str) (.pair .str (.int .i64))))))], ents := [] }
def c_rectoref01_TakeList : Ctr := { k0 := 0, inp := I_rectoref01_TakeList, body := fun v => .need (Sp.takenL.pre v.1) (.ret ⟨O_rectoref01_TakeList, ((Sp.takenL v.1), ())⟩) }
def an_rectoref01_TakeList : Ann := [(6, { slots := [(2, .ce (.ptr 0 0)), (3, .ce (.ptr 2 0)), (4, .ce (.ptr 3 0)), (5, .ce (.v (.int .i64)))], ents := [.box 27 [.v (.int .i64), .v .str, .os 1, .v .str, .v (.int .i64)], .row 9 .str, .box 52 [.v (.int .i64), .v (.int .i64)], .box 27 [.v (.int .i64), .v .str, .os 4, .v .str, .v (.int .i64)], .row 9 .str] })]
def cx_rectoref01_TakeList : Cx := mkCx [(26, [c_rectoref01_num]), (23, [c_rectoref01_TakeText])]
theorem eq_rectoref01_TakeList (b : Str) (R : ((p : Pat) × p.V) → Prop) : fnVc (cx_rectoref01_TakeList) an_rectoref01_TakeList 0 Try.f25 I_rectoref01_TakeList [O_rectoref01_TakeList] (b, ()) R = rectoref01_TakeList.vc (fun y0 => R ⟨O_rectoref01_TakeList, (y0, ())⟩) b := by kernel_rfl
theorem fs_rectoref01_TakeList : CtrsOk Try.prog [(26, [c_rectoref01_num]), (23, [c_rectoref01_TakeText])] := ⟨ctr1 (ctr_rectoref01_num), ctr1 (ctr_rectoref01_TakeText), trivial⟩
theorem vc_rectoref01_TakeList (H : Nat → Entry) (v : c_rectoref01_TakeList.inp.V) (r : (p : Pat) × p.V) (h : (c_rectoref01_TakeList.body v).Sel H r) : fnVc (cx_rectoref01_TakeList) an_rectoref01_TakeList 0 Try.f25 c_rectoref01_TakeList.inp [O_rectoref01_TakeList] v (fun r' => r' = r) := by
  obtain ⟨b, ⟨⟩⟩ := v
  obtain ⟨h, rfl⟩ := h
  exact Eq.mpr (eq_rectoref01_TakeList b _) (rectoref01_TakeList.ok _ b h rfl)
theorem ctr_rectoref01_TakeList : CtrOk Try.prog 25 c_rectoref01_TakeList := ⟨⟨_, Try.func25, by kernel_rfl, by kernel_rfl⟩, fun H v r h => mk_ok _ (fs_rectoref01_TakeList) (an := an_rectoref01_TakeList) (outs := [O_rectoref01_TakeList]) Try.func25 (by decide) (vc_rectoref01_TakeList H v r h)⟩
abbrev I_rectoplain_Texts : Pat := { slots := [(0, .ce (.v (.sl .str))), (1, .ce (.v (.sl .str)))], ents := [] }
abbrev O_rectoplain_Texts : Pat := { slots := [(0, .ce (.v .bool))], ents := [] }
def c_rectoplain_Texts : Ctr := { k0 := 0, inp := I_rectoplain_Texts, body := fun v => .need (Sp.eqL.pre v.1 v.2.1) (.ret ⟨O_rectoplain_Texts, ((Sp.eqL v.1 v.2.1), ())⟩) }
def an_rectoplain_Texts : Ann := [(2, { slots := [(0, .ce (.v (.sl .str))), (1, .ce (.v (.sl .str))), (7, .ce (.v (.int .i64))), (8, .ce (.v (.int .i64)))], ents := [] })]
def cx_rectoplain_Texts : Cx := mkCx []
theorem eq_rectoplain_Texts (a : (List Str)) (b : (List Str)) (R : ((p : Pat) × p.V) → Prop) : fnVc (cx_rectoplain_Texts) an_rectoplain_Texts 0 Try.f21 I_rectoplain_Texts [O_rectoplain_Texts] (a, b, ()) R = rectoplain_Texts.vc (fun y0 => R ⟨O_rectoplain_Texts, (y0, ())⟩) a b := by kernel_rfl
theorem fs_rectoplain_Texts : CtrsOk Try.prog [] := trivial
theorem vc_rectoplain_Texts (H : Nat → Entry) (v : c_rectoplain_Texts.inp.V) (r : (p : Pat) × p.V) (h : (c_rectoplain_Texts.body v).Sel H r) : fnVc (cx_rectoplain_Texts) an_rectoplain_Texts 0 Try.f21 c_rectoplain_Texts.inp [O_rectoplain_Texts] v (fun r' => r' = r) := by
  obtain ⟨a, b, ⟨⟩⟩ := v
  obtain ⟨h, rfl⟩ := h
  exact Eq.mpr (eq_rectoplain_Texts a b _) (rectoplain_Texts.ok _ a b h rfl)
theorem ctr_rectoplain_Texts : CtrOk Try.prog 21 c_rectoplain_Texts := ⟨⟨_, Try.func21, by kernel_rfl, by kernel_rfl⟩, fun H v r h => mk_ok _ (fs_rectoplain_Texts) (an := an_rectoplain_Texts) (outs := [O_rectoplain_Texts]) Try.func21 (by decide) (vc_rectoplain_Texts H v r h)⟩
abbrev I_rectolaw01_ab : Pat := { slots := [], ents := [] }
abbrev O_rectolaw01_ab : Pat := { slots := [(0, .ce (.v .bool))], ents := [] }
def c_rectolaw01_ab : Ctr := { k0 := 0, inp := I_rectolaw01_ab, body := fun v => .ret ⟨O_rectolaw01_ab, ((Sp.tt), ())⟩ }
def an_rectolaw01_ab : Ann := []
def cx_rectolaw01_ab : Cx := mkCx [(16, [c_quill_Text]), (22, [c_quill_TakeText]), (12, [c_quill_Num])]
theorem eq_rectolaw01_ab  (R : ((p : Pat) × p.V) → Prop) : fnVc (cx_rectolaw01_ab) an_rectolaw01_ab 0 Try.f11 I_rectolaw01_ab [O_rectolaw01_ab] (()) R = rectolaw01_ab.vc (fun y0 => R ⟨O_rectolaw01_ab, (y0, ())⟩)  := by kernel_rfl
theorem fs_rectolaw01_ab : CtrsOk Try.prog [(16, [c_quill_Text]), (22, [c_quill_TakeText]), (12, [c_quill_Num])] := ⟨ctr1 (ctr_quill_Text), ctr1 (ctr_quill_TakeText), ctr1 (ctr_quill_Num), trivial⟩
theorem vc_rectolaw01_ab (H : Nat → Entry) (v : c_rectolaw01_ab.inp.V) (r : (p : Pat) × p.V) (h : (c_rectolaw01_ab.body v).Sel H r) : fnVc (cx_rectolaw01_ab) an_rectolaw01_ab 0 Try.f11 c_rectolaw01_ab.inp [O_rectolaw01_ab] v (fun r' => r' = r) := by
  obtain ⟨⟩ := v
  obtain rfl := h
  exact Eq.mpr (eq_rectolaw01_ab  _) (rectolaw01_ab.ok _   rfl)
theorem ctr_rectolaw01_ab : CtrOk Try.prog 11 c_rectolaw01_ab := ⟨⟨_, Try.func11, by kernel_rfl, by kernel_rfl⟩, fun H v r h => mk_ok _ (fs_rectolaw01_ab) (an := an_rectolaw01_ab) (outs := [O_rectolaw01_ab]) Try.func11 (by decide) (vc_rectolaw01_ab H v r h)⟩
abbrev I_rectolaw01_long : Pat := { slots := [(0, .ce (.v (.sl .str)))], ents := [] }
abbrev O_rectolaw01_long : Pat := { slots := [(0, .ce (.v .bool))], ents := [] }
def c_rectolaw01_long : Ctr := { k0 := 0, inp := I_rectolaw01_long, body := fun v => .need (Sp.long.pre v.1) (.ret ⟨O_rectolaw01_long, ((Sp.long v.1), ())⟩) }
def an_rectolaw01_long : Ann := [(3, { slots := [(3, .ce (.v (.int .i64))), (6, .ce (.v (.sl .str))), (7, .ce (.v (.int .i64))), (8, .ce (.v (.int .i64)))], ents := [] })]
def cx_rectolaw01_long : Cx := mkCx []
theorem eq_rectolaw01_long (l : (List Str)) (R : ((p : Pat) × p.V) → Prop) : fnVc (cx_rectolaw01_long) an_rectolaw01_long 0 Try.f14 I_rectolaw01_long [O_rectolaw01_long] (l, ()) R = rectolaw01_long.vc (fun y0 => R ⟨O_rectolaw01_long, (y0, ())⟩) l := by kernel_rfl
theorem fs_rectolaw01_long : CtrsOk Try.prog [] := trivial
theorem vc_rectolaw01_long (H : Nat → Entry) (v : c_rectolaw01_long.inp.V) (r : (p : Pat) × p.V) (h : (c_rectolaw01_long.body v).Sel H r) : fnVc (cx_rectolaw01_long) an_rectolaw01_long 0 Try.f14 c_rectolaw01_long.inp [O_rectolaw01_long] v (fun r' => r' = r) := by
  obtain ⟨l, ⟨⟩⟩ := v
  obtain ⟨h, rfl⟩ := h
  exact Eq.mpr (eq_rectolaw01_long l _) (rectolaw01_long.ok _ l h rfl)
theorem ctr_rectolaw01_long : CtrOk Try.prog 14 c_rectolaw01_long := ⟨⟨_, Try.func14, by kernel_rfl, by kernel_rfl⟩, fun H v r h => mk_ok _ (fs_rectolaw01_long) (an := an_rectolaw01_long) (outs := [O_rectolaw01_long]) Try.func14 (by decide) (vc_rectolaw01_long H v r h)⟩
abbrev I_rectolaw01_begins : Pat := { slots := [(0, .ce (.v .str)), (1, .ce (.v .str))], ents := [] }
abbrev O_rectolaw01_begins : Pat := { slots := [(0, .ce (.v .bool))], ents := [] }
def c_rectolaw01_begins : Ctr := { k0 := 0, inp := I_rectolaw01_begins, body := fun v => .ret ⟨O_rectolaw01_begins, ((Sp.begins v.1 v.2.1), ())⟩ }
def an_rectolaw01_begins : Ann := []
def cx_rectolaw01_begins : Cx := mkCx []
theorem eq_rectolaw01_begins (a : Str) (b : Str) (R : ((p : Pat) × p.V) → Prop) : fnVc (cx_rectolaw01_begins) an_rectolaw01_begins 0 Try.f20 I_rectolaw01_begins [O_rectolaw01_begins] (a, b, ()) R = rectolaw01_begins.vc (fun y0 => R ⟨O_rectolaw01_begins, (y0, ())⟩) a b := by kernel_rfl
theorem fs_rectolaw01_begins : CtrsOk Try.prog [] := trivial
theorem vc_rectolaw01_begins (H : Nat → Entry) (v : c_rectolaw01_begins.inp.V) (r : (p : Pat) × p.V) (h : (c_rectolaw01_begins.body v).Sel H r) : fnVc (cx_rectolaw01_begins) an_rectolaw01_begins 0 Try.f20 c_rectolaw01_begins.inp [O_rectolaw01_begins] v (fun r' => r' = r) := by
  obtain ⟨a, b, ⟨⟩⟩ := v
  obtain rfl := h
  exact Eq.mpr (eq_rectolaw01_begins a b _) (rectolaw01_begins.ok _ a b  rfl)
theorem ctr_rectolaw01_begins : CtrOk Try.prog 20 c_rectolaw01_begins := ⟨⟨_, Try.func20, by kernel_rfl, by kernel_rfl⟩, fun H v r h => mk_ok _ (fs_rectolaw01_begins) (an := an_rectolaw01_begins) (outs := [O_rectolaw01_begins]) Try.func20 (by decide) (vc_rectolaw01_begins H v r h)⟩
abbrev I_rectolaw01_QuillNums : Pat := { slots := [(0, .ce (.v .str))], ents := [] }
abbrev O_rectolaw01_QuillNums : Pat := { slots := [(0, .ce (.v .bool))], ents := [] }
def c_rectolaw01_QuillNums : Ctr := { k0 := 0, inp := I_rectolaw01_QuillNums, body := fun v => .need (Sz .str v.1) (.ret ⟨O_rectolaw01_QuillNums, ((Sp.tt), ())⟩) }
def an_rectolaw01_QuillNums : Ann := []
def cx_rectolaw01_QuillNums : Cx := mkCx [(9, [c_quill_TakeNum]), (10, [c_rectoref01_TakeNum]), (11, [c_rectolaw01_ab])]
theorem eq_rectolaw01_QuillNums (b : Str) (R : ((p : Pat) × p.V) → Prop) : fnVc (cx_rectolaw01_QuillNums) an_rectolaw01_QuillNums 0 Try.f3 I_rectolaw01_QuillNums [O_rectolaw01_QuillNums] (b, ()) R = rectolaw01_QuillNums.vc (fun y0 => R ⟨O_rectolaw01_QuillNums, (y0, ())⟩) b := by kernel_rfl
theorem fs_rectolaw01_QuillNums : CtrsOk Try.prog [(9, [c_quill_TakeNum]), (10, [c_rectoref01_TakeNum]), (11, [c_rectolaw01_ab])] := ⟨ctr1 (ctr_quill_TakeNum), ctr1 (ctr_rectoref01_TakeNum), ctr1 (ctr_rectolaw01_ab), trivial⟩
theorem vc_rectolaw01_QuillNums (H : Nat → Entry) (v : c_rectolaw01_QuillNums.inp.V) (r : (p : Pat) × p.V) (h : (c_rectolaw01_QuillNums.body v).Sel H r) : fnVc (cx_rectolaw01_QuillNums) an_rectolaw01_QuillNums 0 Try.f3 c_rectolaw01_QuillNums.inp [O_rectolaw01_QuillNums] v (fun r' => r' = r) := by
  obtain ⟨b, ⟨⟩⟩ := v
  obtain ⟨h, rfl⟩ := h
  exact Eq.mpr (eq_rectolaw01_QuillNums b _) (rectolaw01_QuillNums.ok _ b h rfl)
theorem ctr_rectolaw01_QuillNums : CtrOk Try.prog 3 c_rectolaw01_QuillNums := ⟨⟨_, Try.func3, by kernel_rfl, by kernel_rfl⟩, fun H v r h => mk_ok _ (fs_rectolaw01_QuillNums) (an := an_rectolaw01_QuillNums) (outs := [O_rectolaw01_QuillNums]) Try.func3 (by decide) (vc_rectolaw01_QuillNums H v r h)⟩
abbrev I_rectolaw01_QuillSizes : Pat := { slots := [(0, .ce (.v (.int .i64))), (1, .ce (.v (.int .i64)))], ents := [] }
abbrev O_rectolaw01_QuillSizes : Pat := { slots := [(0, .ce (.v .bool))], ents := [] }
def c_rectolaw01_QuillSizes : Ctr := { k0 := 0, inp := I_rectolaw01_QuillSizes, body := fun v => .need (Sz (.int .i64) v.1 ∧ Sz (.int .i64) v.2.1) (.ret ⟨O_rectolaw01_QuillSizes, ((Sp.tt), ())⟩) }
def an_rectolaw01_QuillSizes : Ann := []
def cx_rectolaw01_QuillSizes : Cx := mkCx [(12, [c_quill_Num]), (11, [c_rectolaw01_ab]), (13, [c_rectoref01_Size])]
theorem eq_rectolaw01_QuillSizes (n : Int) (m : Int) (R : ((p : Pat) × p.V) → Prop) : fnVc (cx_rectolaw01_QuillSizes) an_rectolaw01_QuillSizes 0 Try.f4 I_rectolaw01_QuillSizes [O_rectolaw01_QuillSizes] (n, m, ()) R = rectolaw01_QuillSizes.vc (fun y0 => R ⟨O_rectolaw01_QuillSizes, (y0, ())⟩) n m := by kernel_rfl
theorem fs_rectolaw01_QuillSizes : CtrsOk Try.prog [(12, [c_quill_Num]), (11, [c_rectolaw01_ab]), (13, [c_rectoref01_Size])] := ⟨ctr1 (ctr_quill_Num), ctr1 (ctr_rectolaw01_ab), ctr1 (ctr_rectoref01_Size), trivial⟩
theorem vc_rectolaw01_QuillSizes (H : Nat → Entry) (v : c_rectolaw01_QuillSizes.inp.V) (r : (p : Pat) × p.V) (h : (c_rectolaw01_QuillSizes.body v).Sel H r) : fnVc (cx_rectolaw01_QuillSizes) an_rectolaw01_QuillSizes 0 Try.f4 c_rectolaw01_QuillSizes.inp [O_rectolaw01_QuillSizes] v (fun r' => r' = r) := by
  obtain ⟨n, m, ⟨⟩⟩ := v
  obtain ⟨h, rfl⟩ := h
  exact Eq.mpr (eq_rectolaw01_QuillSizes n m _) (rectolaw01_QuillSizes.ok _ n m h rfl)
theorem ctr_rectolaw01_QuillSizes : CtrOk Try.prog 4 c_rectolaw01_QuillSizes := ⟨⟨_, Try.func4, by kernel_rfl, by kernel_rfl⟩, fun H v r h => mk_ok _ (fs_rectolaw01_QuillSizes) (an := an_rectolaw01_QuillSizes) (outs := [O_rectolaw01_QuillSizes]) Try.func4 (by decide) (vc_rectolaw01_QuillSizes H v r h)⟩
abbrev I_rectolaw01_QuillPuts : Pat := { slots := [(0, .ce (.v (.int .i64))), (1, .ce (.v .str)), (2, .ce (.v (.sl .str)))], ents := [] }
abbrev O_rectolaw01_QuillPuts : Pat := { slots := [(0, .ce (.v .bool))], ents := [] }
def c_rectolaw01_QuillPuts : Ctr := { k0 := 0, inp := I_rectolaw01_QuillPuts, body := fun v => .need (Sz (.int .i64) v.1 ∧ Sz .str v.2.1 ∧ Sz (.sl .str) v.2.2.1) (.ret ⟨O_rectolaw01_QuillPuts, ((Sp.tt), ())⟩) }
def an_rectolaw01_QuillPuts : Ann := []
def cx_rectolaw01_QuillPuts : Cx := mkCx [(14, [c_rectolaw01_long]), (11, [c_rectolaw01_ab]), (12, [c_quill_Num]), (15, [c_rectoref01_Num]), (16, [c_quill_Text]), (17, [c_rectoref01_Text]), (18, [c_quill_List]), (19, [c_rectoref01_List])]
theorem eq_rectolaw01_QuillPuts (n : Int) (s : Str) (l : (List Str)) (R : ((p : Pat) × p.V) → Prop) : fnVc (cx_rectolaw01_QuillPuts) an_rectolaw01_QuillPuts 0 Try.f5 I_rectolaw01_QuillPuts [O_rectolaw01_QuillPuts] (n, s, l, ()) R = rectolaw01_QuillPuts.vc (fun y0 => R ⟨O_rectolaw01_QuillPuts, (y0, ())⟩) n s l := by kernel_rfl
theorem fs_rectolaw01_QuillPuts : CtrsOk Try.prog [(14, [c_rectolaw01_long]), (11, [c_rectolaw01_ab]), (12, [c_quill_Num]), (15, [c_rectoref01_Num]), (16, [c_quill_Text]), (17, [c_rectoref01_Text]), (18, [c_quill_List]), (19, [c_rectoref01_List])] := ⟨ctr1 (ctr_rectolaw01_long), ctr1 (ctr_rectolaw01_ab), ctr1 (ctr_quill_Num), ctr1 (ctr_rectoref01_Num), ctr1 (ctr_quill_Text), ctr1 (ctr_rectoref01_Text), ctr1 (ctr_quill_List), ctr1 (ctr_rectoref01_List), trivial⟩
theorem vc_rectolaw01_QuillPuts (H : Nat → Entry) (v : c_rectolaw01_QuillPuts.inp.V) (r : (p : Pat) × p.V) (h : (c_rectolaw01_QuillPuts.body v).Sel H r) : fnVc (cx_rectolaw01_QuillPuts) an_rectolaw01_QuillPuts 0 Try.f5 c_rectolaw01_QuillPuts.inp [O_rectolaw01_QuillPuts] v (fun r' => r' = r) := by
  obtain ⟨n, s, l, ⟨⟩⟩ := v
  obtain ⟨h, rfl⟩ := h
  exact Eq.mpr (eq_rectolaw01_QuillPuts n s l _) (rectolaw01_QuillPuts.ok _ n s l h rfl)
theorem ctr_rectolaw01_QuillPuts : CtrOk Try.prog 5 c_rectolaw01_QuillPuts := ⟨⟨_, Try.func5, by kernel_rfl, by kernel_rfl⟩, fun H v r h => mk_ok _ (fs_rectolaw01_QuillPuts) (an := an_rectolaw01_QuillPuts) (outs := [O_rectolaw01_QuillPuts]) Try.func5 (by decide) (vc_rectolaw01_QuillPuts H v r h)⟩
abbrev I_rectolaw01_QuillApart : Pat := { slots := [(0, .ce (.v (.sl .str))), (1, .ce (.v (.sl .str)))], ents := [] }
abbrev O_rectolaw01_QuillApart : Pat := { slots := [(0, .ce (.v .bool))], ents := [] }
def c_rectolaw01_QuillApart : Ctr := { k0 := 0, inp := I_rectolaw01_QuillApart, body := fun v => .need (Sz (.sl .str) v.1 ∧ Sz (.sl .str) v.2.1) (.ret ⟨O_rectolaw01_QuillApart, ((Sp.tt), ())⟩) }
def an_rectolaw01_QuillApart : Ann := []
def cx_rectolaw01_QuillApart : Cx := mkCx [(14, [c_rectolaw01_long]), (11, [c_rectolaw01_ab]), (18, [c_quill_List]), (20, [c_rectolaw01_begins]), (21, [c_rectoplain_Texts])]
theorem eq_rectolaw01_QuillApart (a : (List Str)) (b : (List Str)) (R : ((p : Pat) × p.V) → Prop) : fnVc (cx_rectolaw01_QuillApart) an_rectolaw01_QuillApart 0 Try.f6 I_rectolaw01_QuillApart [O_rectolaw01_QuillApart] (a, b, ()) R = rectolaw01_QuillApart.vc (fun y0 => R ⟨O_rectolaw01_QuillApart, (y0, ())⟩) a b := by kernel_rfl
theorem fs_rectolaw01_QuillApart : CtrsOk Try.prog [(14, [c_rectolaw01_long]), (11, [c_rectolaw01_ab]), (18, [c_quill_List]), (20, [c_rectolaw01_begins]), (21, [c_rectoplain_Texts])] := ⟨ctr1 (ctr_rectolaw01_long), ctr1 (ctr_rectolaw01_ab), ctr1 (ctr_quill_List), ctr1 (ctr_rectolaw01_begins), ctr1 (ctr_rectoplain_Texts), trivial⟩
theorem vc_rectolaw01_QuillApart (H : Nat → Entry) (v : c_rectolaw01_QuillApart.inp.V) (r : (p : Pat) × p.V) (h : (c_rectolaw01_QuillApart.body v).Sel H r) : fnVc (cx_rectolaw01_QuillApart) an_rectolaw01_QuillApart 0 Try.f6 c_rectolaw01_QuillApart.inp [O_rectolaw01_QuillApart] v (fun r' => r' = r) := by
  obtain ⟨a, b, ⟨⟩⟩ := v
  obtain ⟨h, rfl⟩ := h
  exact Eq.mpr (eq_rectolaw01_QuillApart a b _) (rectolaw01_QuillApart.ok _ a b h rfl)
theorem ctr_rectolaw01_QuillApart : CtrOk Try.prog 6 c_rectolaw01_QuillApart := ⟨⟨_, Try.func6, by kernel_rfl, by kernel_rfl⟩, fun H v r h => mk_ok _ (fs_rectolaw01_QuillApart) (an := an_rectolaw01_QuillApart) (outs := [O_rectolaw01_QuillApart]) Try.func6 (by decide) (vc_rectolaw01_QuillApart H v r h)⟩
abbrev I_rectolaw01_QuillTexts : Pat := { slots := [(0, .ce (.v .str))], ents := [] }
abbrev O_rectolaw01_QuillTexts : Pat := { slots := [(0, .ce (.v .bool))], ents := [] }
def c_rectolaw01_QuillTexts : Ctr := { k0 := 0, inp := I_rectolaw01_QuillTexts, body := fun v => .need (Sz .str v.1) (.ret ⟨O_rectolaw01_QuillTexts, ((Sp.tt), ())⟩) }
def an_rectolaw01_QuillTexts : Ann := []
def cx_rectolaw01_QuillTexts : Cx := mkCx [(11, [c_rectolaw01_ab]), (22, [c_quill_TakeText]), (23, [c_rectoref01_TakeText]), (24, [c_quill_TakeList]), (25, [c_rectoref01_TakeList]), (21, [c_rectoplain_Texts])]
theorem eq_rectolaw01_QuillTexts (b : Str) (R : ((p : Pat) × p.V) → Prop) : fnVc (cx_rectolaw01_QuillTexts) an_rectolaw01_QuillTexts 0 Try.f7 I_rectolaw01_QuillTexts [O_rectolaw01_QuillTexts] (b, ()) R = rectolaw01_QuillTexts.vc (fun y0 => R ⟨O_rectolaw01_QuillTexts, (y0, ())⟩) b := by kernel_rfl
theorem fs_rectolaw01_QuillTexts : CtrsOk Try.prog [(11, [c_rectolaw01_ab]), (22, [c_quill_TakeText]), (23, [c_rectoref01_TakeText]), (24, [c_quill_TakeList]), (25, [c_rectoref01_TakeList]), (21, [c_rectoplain_Texts])] := ⟨ctr1 (ctr_rectolaw01_ab), ctr1 (ctr_quill_TakeText), ctr1 (ctr_rectoref01_TakeText), ctr1 (ctr_quill_TakeList), ctr1 (ctr_rectoref01_TakeList), ctr1 (ctr_rectoplain_Texts), trivial⟩
theorem vc_rectolaw01_QuillTexts (H : Nat → Entry) (v : c_rectolaw01_QuillTexts.inp.V) (r : (p : Pat) × p.V) (h : (c_rectolaw01_QuillTexts.body v).Sel H r) : fnVc (cx_rectolaw01_QuillTexts) an_rectolaw01_QuillTexts 0 Try.f7 c_rectolaw01_QuillTexts.inp [O_rectolaw01_QuillTexts] v (fun r' => r' = r) := by
  obtain ⟨b, ⟨⟩⟩ := v
  obtain ⟨h, rfl⟩ := h
  exact Eq.mpr (eq_rectolaw01_QuillTexts b _) (rectolaw01_QuillTexts.ok _ b h rfl)
theorem ctr_rectolaw01_QuillTexts : CtrOk Try.prog 7 c_rectolaw01_QuillTexts := ⟨⟨_, Try.func7, by kernel_rfl, by kernel_rfl⟩, fun H v r h => mk_ok _ (fs_rectolaw01_QuillTexts) (an := an_rectolaw01_QuillTexts) (outs := [O_rectolaw01_QuillTexts]) Try.func7 (by decide) (vc_rectolaw01_QuillTexts H v r h)⟩
abbrev I_rectolaw01_QuillBack : Pat := { slots := [(0, .ce (.v (.int .i64))), (1, .ce (.v (.sl .str))), (2, .ce (.v .str))], ents := [] }
abbrev O_rectolaw01_QuillBack : Pat := { slots := [(0, .ce (.v .bool))], ents := [] }
def c_rectolaw01_QuillBack : Ctr := { k0 := 0, inp := I_rectolaw01_QuillBack, body := fun v => .need (Sz (.int .i64) v.1 ∧ Sz (.sl .str) v.2.1 ∧ Sz .str v.2.2.1) (.ret ⟨O_rectolaw01_QuillBack, ((Sp.tt), ())⟩) }
def an_rectolaw01_QuillBack : Ann := []
def cx_rectolaw01_QuillBack : Cx := mkCx [(14, [c_rectolaw01_long]), (11, [c_rectolaw01_ab]), (12, [c_quill_Num]), (9, [c_quill_TakeNum]), (18, [c_quill_List]), (24, [c_quill_TakeList]), (21, [c_rectoplain_Texts])]
theorem eq_rectolaw01_QuillBack (n : Int) (l : (List Str)) (behind : Str) (R : ((p : Pat) × p.V) → Prop) : fnVc (cx_rectolaw01_QuillBack) an_rectolaw01_QuillBack 0 Try.f8 I_rectolaw01_QuillBack [O_rectolaw01_QuillBack] (n, l, behind, ()) R = rectolaw01_QuillBack.vc (fun y0 => R ⟨O_rectolaw01_QuillBack, (y0, ())⟩) n l behind := by kernel_rfl
theorem fs_rectolaw01_QuillBack : CtrsOk Try.prog [(14, [c_rectolaw01_long]), (11, [c_rectolaw01_ab]), (12, [c_quill_Num]), (9, [c_quill_TakeNum]), (18, [c_quill_List]), (24, [c_quill_TakeList]), (21, [c_rectoplain_Texts])] := ⟨ctr1 (ctr_rectolaw01_long), ctr1 (ctr_rectolaw01_ab), ctr1 (ctr_quill_Num), ctr1 (ctr_quill_TakeNum), ctr1 (ctr_quill_List), ctr1 (ctr_quill_TakeList), ctr1 (ctr_rectoplain_Texts), trivial⟩
theorem vc_rectolaw01_QuillBack (H : Nat → Entry) (v : c_rectolaw01_QuillBack.inp.V) (r : (p : Pat) × p.V) (h : (c_rectolaw01_QuillBack.body v).Sel H r) : fnVc (cx_rectolaw01_QuillBack) an_rectolaw01_QuillBack 0 Try.f8 c_rectolaw01_QuillBack.inp [O_rectolaw01_QuillBack] v (fun r' => r' = r) := by
  obtain ⟨n, l, behind, ⟨⟩⟩ := v
  obtain ⟨h, rfl⟩ := h
  exact Eq.mpr (eq_rectolaw01_QuillBack n l behind _) (rectolaw01_QuillBack.ok _ n l behind h rfl)
theorem ctr_rectolaw01_QuillBack : CtrOk Try.prog 8 c_rectolaw01_QuillBack := ⟨⟨_, Try.func8, by kernel_rfl, by kernel_rfl⟩, fun H v r h => mk_ok _ (fs_rectolaw01_QuillBack) (an := an_rectolaw01_QuillBack) (outs := [O_rectolaw01_QuillBack]) Try.func8 (by decide) (vc_rectolaw01_QuillBack H v r h)⟩
end Vs
