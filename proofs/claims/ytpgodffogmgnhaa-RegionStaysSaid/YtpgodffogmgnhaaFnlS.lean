/- Functions held against what they tell. Written by a program of this session. -/
import Derived.Test.YtpgodffogmgnhaaPlS
import Derived.Test.YtpgodffogmgnhaaViThree
import Derived.Test.YtpgodffogmgnhaaFnlL
set_option linter.unnecessarySimpa false
set_option linter.unusedVariables false
set_option linter.unusedSectionVars false
set_option linter.unusedSimpArgs false
set_option autoImplicit false
set_option linter.unusedVariables false
set_option maxRecDepth 100000
attribute [local irreducible] Vi.fnVc
namespace Vs
open Go Vi Go.Proofs
abbrev I_internal_stringslite_HasPrefix : Pat := { slots := [(0, .ce (.v .str)), (1, .ce (.v .str))], ents := [] }
abbrev O_internal_stringslite_HasPrefix : Pat := { slots := [(0, .ce (.v .bool))], ents := [] }
def c_internal_stringslite_HasPrefix : Ctr := { k0 := 0, inp := I_internal_stringslite_HasPrefix, body := fun v => .need (Sp.preB.pre v.1 v.2.1) (.ret ⟨O_internal_stringslite_HasPrefix, ((Sp.preB v.1 v.2.1), ())⟩), ex := 0 }
def an_internal_stringslite_HasPrefix : Ann := []
def cx_internal_stringslite_HasPrefix : Cx := mkCx []
theorem eq_internal_stringslite_HasPrefix (s : Str) (prefix_ : Str) (R : ((p : Pat) × p.V) → Prop) : fnVc (cx_internal_stringslite_HasPrefix) an_internal_stringslite_HasPrefix 0 Try.f102 I_internal_stringslite_HasPrefix [O_internal_stringslite_HasPrefix] (s, prefix_, ()) R = internal_stringslite_HasPrefix.vc (fun y0 => R ⟨O_internal_stringslite_HasPrefix, (y0, ())⟩) s prefix_ := by kernel_rfl
theorem fs_internal_stringslite_HasPrefix : CtrsOk Try.prog [] := trivial
theorem vc_internal_stringslite_HasPrefix (H : Nat → Entry) (v : c_internal_stringslite_HasPrefix.inp.V) (r : (p : Pat) × p.V) (h : (c_internal_stringslite_HasPrefix.body v).Sel H r) : fnVc (cx_internal_stringslite_HasPrefix) an_internal_stringslite_HasPrefix 0 Try.f102 c_internal_stringslite_HasPrefix.inp [O_internal_stringslite_HasPrefix] v (fun r' => r' = r) := by
  obtain ⟨s, prefix_, ⟨⟩⟩ := v
  obtain ⟨h, rfl⟩ := h
  exact Eq.mpr (eq_internal_stringslite_HasPrefix s prefix_ _) (internal_stringslite_HasPrefix.ok _ s prefix_ h rfl)
theorem ctr_internal_stringslite_HasPrefix : CtrOk Try.prog 102 c_internal_stringslite_HasPrefix := ⟨⟨_, Try.func102, by kernel_rfl, by kernel_rfl⟩, fun H v r h => mk_ok _ (fs_internal_stringslite_HasPrefix) (an := an_internal_stringslite_HasPrefix) (outs := [O_internal_stringslite_HasPrefix]) Try.func102 (by decide) (vc_internal_stringslite_HasPrefix H v r h)⟩
abbrev I_internal_stringslite_CutPrefix : Pat := { slots := [(0, .ce (.v .str)), (1, .ce (.v .str))], ents := [] }
abbrev O_internal_stringslite_CutPrefix : Pat := { slots := [(0, .ce (.v .str)), (1, .ce (.v .bool))], ents := [] }
def c_internal_stringslite_CutPrefix : Ctr := { k0 := 0, inp := I_internal_stringslite_CutPrefix, body := fun v => .need (Sp.preB.pre v.1 v.2.1) (.ret ⟨O_internal_stringslite_CutPrefix, ((Sp.cutP v.1 v.2.1).1, (Sp.cutP v.1 v.2.1).2, ())⟩), ex := 0 }
def an_internal_stringslite_CutPrefix : Ann := []
def cx_internal_stringslite_CutPrefix : Cx := mkCx [(102, [c_internal_stringslite_HasPrefix])]
theorem eq_internal_stringslite_CutPrefix (s : Str) (prefix_ : Str) (R : ((p : Pat) × p.V) → Prop) : fnVc (cx_internal_stringslite_CutPrefix) an_internal_stringslite_CutPrefix 0 Try.f114 I_internal_stringslite_CutPrefix [O_internal_stringslite_CutPrefix] (s, prefix_, ()) R = internal_stringslite_CutPrefix.vc (fun y0 y1 => R ⟨O_internal_stringslite_CutPrefix, (y0, y1, ())⟩) s prefix_ := by kernel_rfl
theorem fs_internal_stringslite_CutPrefix : CtrsOk Try.prog [(102, [c_internal_stringslite_HasPrefix])] := ⟨ctr1 (ctr_internal_stringslite_HasPrefix), trivial⟩
theorem vc_internal_stringslite_CutPrefix (H : Nat → Entry) (v : c_internal_stringslite_CutPrefix.inp.V) (r : (p : Pat) × p.V) (h : (c_internal_stringslite_CutPrefix.body v).Sel H r) : fnVc (cx_internal_stringslite_CutPrefix) an_internal_stringslite_CutPrefix 0 Try.f114 c_internal_stringslite_CutPrefix.inp [O_internal_stringslite_CutPrefix] v (fun r' => r' = r) := by
  obtain ⟨s, prefix_, ⟨⟩⟩ := v
  obtain ⟨h, rfl⟩ := h
  exact Eq.mpr (eq_internal_stringslite_CutPrefix s prefix_ _) (internal_stringslite_CutPrefix.ok _ s prefix_ h rfl)
theorem ctr_internal_stringslite_CutPrefix : CtrOk Try.prog 114 c_internal_stringslite_CutPrefix := ⟨⟨_, Try.func114, by kernel_rfl, by kernel_rfl⟩, fun H v r h => mk_ok _ (fs_internal_stringslite_CutPrefix) (an := an_internal_stringslite_CutPrefix) (outs := [O_internal_stringslite_CutPrefix]) Try.func114 (by decide) (vc_internal_stringslite_CutPrefix H v r h)⟩
abbrev I_strings_CutPrefix : Pat := { slots := [(0, .ce (.v .str)), (1, .ce (.v .str))], ents := [] }
abbrev O_strings_CutPrefix : Pat := { slots := [(0, .ce (.v .str)), (1, .ce (.v .bool))], ents := [] }
def c_strings_CutPrefix : Ctr := { k0 := 0, inp := I_strings_CutPrefix, body := fun v => .need (Sp.preB.pre v.1 v.2.1) (.ret ⟨O_strings_CutPrefix, ((Sp.cutP v.1 v.2.1).1, (Sp.cutP v.1 v.2.1).2, ())⟩), ex := 0 }
def an_strings_CutPrefix : Ann := []
def cx_strings_CutPrefix : Cx := mkCx [(114, [c_internal_stringslite_CutPrefix])]
theorem eq_strings_CutPrefix (s : Str) (prefix_ : Str) (R : ((p : Pat) × p.V) → Prop) : fnVc (cx_strings_CutPrefix) an_strings_CutPrefix 0 Try.f110 I_strings_CutPrefix [O_strings_CutPrefix] (s, prefix_, ()) R = strings_CutPrefix.vc (fun y0 y1 => R ⟨O_strings_CutPrefix, (y0, y1, ())⟩) s prefix_ := by kernel_rfl
theorem fs_strings_CutPrefix : CtrsOk Try.prog [(114, [c_internal_stringslite_CutPrefix])] := ⟨ctr1 (ctr_internal_stringslite_CutPrefix), trivial⟩
theorem vc_strings_CutPrefix (H : Nat → Entry) (v : c_strings_CutPrefix.inp.V) (r : (p : Pat) × p.V) (h : (c_strings_CutPrefix.body v).Sel H r) : fnVc (cx_strings_CutPrefix) an_strings_CutPrefix 0 Try.f110 c_strings_CutPrefix.inp [O_strings_CutPrefix] v (fun r' => r' = r) := by
  obtain ⟨s, prefix_, ⟨⟩⟩ := v
  obtain ⟨h, rfl⟩ := h
  exact Eq.mpr (eq_strings_CutPrefix s prefix_ _) (strings_CutPrefix.ok _ s prefix_ h rfl)
theorem ctr_strings_CutPrefix : CtrOk Try.prog 110 c_strings_CutPrefix := ⟨⟨_, Try.func110, by kernel_rfl, by kernel_rfl⟩, fun H v r h => mk_ok _ (fs_strings_CutPrefix) (an := an_strings_CutPrefix) (outs := [O_strings_CutPrefix]) Try.func110 (by decide) (vc_strings_CutPrefix H v r h)⟩
abbrev I_slot_Slot_parts : Pat := { slots := [(0, .ag (.pair (.int .i64) (.pair (.int .i64) (.pair (.int .i64) (.int .i64)))))], ents := [] }
abbrev O_slot_Slot_parts : Pat := { slots := [(0, .ag (.arr 4 (.int .i64)))], ents := [] }
def c_slot_Slot_parts : Ctr := { k0 := 0, inp := I_slot_Slot_parts, body := fun v => .ret ⟨O_slot_Slot_parts, ((Sp.partsS v.1), ())⟩, ex := 0 }
def an_slot_Slot_parts : Ann := []
def cx_slot_Slot_parts : Cx := mkCx []
theorem eq_slot_Slot_parts (s : (Int × (Int × (Int × Int)))) (R : ((p : Pat) × p.V) → Prop) : fnVc (cx_slot_Slot_parts) an_slot_Slot_parts 0 Try.f109 I_slot_Slot_parts [O_slot_Slot_parts] (s, ()) R = slot_Slot_parts.vc (fun y0 => R ⟨O_slot_Slot_parts, (y0, ())⟩) s := by kernel_rfl
theorem fs_slot_Slot_parts : CtrsOk Try.prog [] := trivial
theorem vc_slot_Slot_parts (H : Nat → Entry) (v : c_slot_Slot_parts.inp.V) (r : (p : Pat) × p.V) (h : (c_slot_Slot_parts.body v).Sel H r) : fnVc (cx_slot_Slot_parts) an_slot_Slot_parts 0 Try.f109 c_slot_Slot_parts.inp [O_slot_Slot_parts] v (fun r' => r' = r) := by
  obtain ⟨s, ⟨⟩⟩ := v
  obtain rfl := h
  exact Eq.mpr (eq_slot_Slot_parts s _) (slot_Slot_parts.ok _ s  rfl)
theorem ctr_slot_Slot_parts : CtrOk Try.prog 109 c_slot_Slot_parts := ⟨⟨_, Try.func109, by kernel_rfl, by kernel_rfl⟩, fun H v r h => mk_ok _ (fs_slot_Slot_parts) (an := an_slot_Slot_parts) (outs := [O_slot_Slot_parts]) Try.func109 (by decide) (vc_slot_Slot_parts H v r h)⟩
abbrev I_slot_Slot_right_1 : Pat := { slots := [(0, .ce (.v (.int .i64)))], ents := [] }
abbrev O_slot_Slot_right_1 : Pat := { slots := [(0, .ce (.v .bool))], ents := [] }
def c_slot_Slot_right_1 : Ctr := { k0 := 0, inp := I_slot_Slot_right_1, body := fun v => .ret ⟨O_slot_Slot_right_1, ((Sp.countS v.1), ())⟩, ex := 0 }
def an_slot_Slot_right_1 : Ann := []
def cx_slot_Slot_right_1 : Cx := mkCx []
theorem eq_slot_Slot_right_1 (n : Int) (R : ((p : Pat) × p.V) → Prop) : fnVc (cx_slot_Slot_right_1) an_slot_Slot_right_1 0 Try.f113 I_slot_Slot_right_1 [O_slot_Slot_right_1] (n, ()) R = slot_Slot_right_1.vc (fun y0 => R ⟨O_slot_Slot_right_1, (y0, ())⟩) n := by kernel_rfl
theorem fs_slot_Slot_right_1 : CtrsOk Try.prog [] := trivial
theorem vc_slot_Slot_right_1 (H : Nat → Entry) (v : c_slot_Slot_right_1.inp.V) (r : (p : Pat) × p.V) (h : (c_slot_Slot_right_1.body v).Sel H r) : fnVc (cx_slot_Slot_right_1) an_slot_Slot_right_1 0 Try.f113 c_slot_Slot_right_1.inp [O_slot_Slot_right_1] v (fun r' => r' = r) := by
  obtain ⟨n, ⟨⟩⟩ := v
  obtain rfl := h
  exact Eq.mpr (eq_slot_Slot_right_1 n _) (slot_Slot_right_1.ok _ n  rfl)
theorem ctr_slot_Slot_right_1 : CtrOk Try.prog 113 c_slot_Slot_right_1 := ⟨⟨_, Try.func113, by kernel_rfl, by kernel_rfl⟩, fun H v r h => mk_ok _ (fs_slot_Slot_right_1) (an := an_slot_Slot_right_1) (outs := [O_slot_Slot_right_1]) Try.func113 (by decide) (vc_slot_Slot_right_1 H v r h)⟩
abbrev I_slot_Slot_right : Pat := { slots := [(0, .ag (.pair (.int .i64) (.pair (.int .i64) (.pair (.int .i64) (.int .i64)))))], ents := [] }
abbrev O_slot_Slot_right : Pat := { slots := [(0, .ce (.v .bool))], ents := [] }
def c_slot_Slot_right : Ctr := { k0 := 0, inp := I_slot_Slot_right, body := fun v => .ret ⟨O_slot_Slot_right, ((Sp.rightS v.1), ())⟩, ex := 0 }
def an_slot_Slot_right : Ann := []
def cx_slot_Slot_right : Cx := mkCx [(113, [c_slot_Slot_right_1])]
theorem eq_slot_Slot_right (s : (Int × (Int × (Int × Int)))) (R : ((p : Pat) × p.V) → Prop) : fnVc (cx_slot_Slot_right) an_slot_Slot_right 0 Try.f108 I_slot_Slot_right [O_slot_Slot_right] (s, ()) R = slot_Slot_right.vc (fun y0 => R ⟨O_slot_Slot_right, (y0, ())⟩) s := by kernel_rfl
theorem fs_slot_Slot_right : CtrsOk Try.prog [(113, [c_slot_Slot_right_1])] := ⟨ctr1 (ctr_slot_Slot_right_1), trivial⟩
theorem vc_slot_Slot_right (H : Nat → Entry) (v : c_slot_Slot_right.inp.V) (r : (p : Pat) × p.V) (h : (c_slot_Slot_right.body v).Sel H r) : fnVc (cx_slot_Slot_right) an_slot_Slot_right 0 Try.f108 c_slot_Slot_right.inp [O_slot_Slot_right] v (fun r' => r' = r) := by
  obtain ⟨s, ⟨⟩⟩ := v
  obtain rfl := h
  exact Eq.mpr (eq_slot_Slot_right s _) (slot_Slot_right.ok _ s  rfl)
theorem ctr_slot_Slot_right : CtrOk Try.prog 108 c_slot_Slot_right := ⟨⟨_, Try.func108, by kernel_rfl, by kernel_rfl⟩, fun H v r h => mk_ok _ (fs_slot_Slot_right) (an := an_slot_Slot_right) (outs := [O_slot_Slot_right]) Try.func108 (by decide) (vc_slot_Slot_right H v r h)⟩
abbrev I_slot_padded : Pat := { slots := [(0, .ce (.v .str))], ents := [] }
abbrev O_slot_padded : Pat := { slots := [(0, .ce (.v .str))], ents := [] }
def c_slot_padded : Ctr := { k0 := 0, inp := I_slot_padded, body := fun v => .need (Sp.padS.pre v.1) (.ret ⟨O_slot_padded, ((Sp.padS v.1), ())⟩), ex := 0 }
def an_slot_padded : Ann := []
def cx_slot_padded : Cx := mkCx [(50, [c_strings_Repeat])]
theorem eq_slot_padded (s : Str) (R : ((p : Pat) × p.V) → Prop) : fnVc (cx_slot_padded) an_slot_padded 0 Try.f96 I_slot_padded [O_slot_padded] (s, ()) R = slot_padded.vc (fun y0 => R ⟨O_slot_padded, (y0, ())⟩) s := by kernel_rfl
theorem fs_slot_padded : CtrsOk Try.prog [(50, [c_strings_Repeat])] := ⟨ctr1 (ctr_strings_Repeat), trivial⟩
theorem vc_slot_padded (H : Nat → Entry) (v : c_slot_padded.inp.V) (r : (p : Pat) × p.V) (h : (c_slot_padded.body v).Sel H r) : fnVc (cx_slot_padded) an_slot_padded 0 Try.f96 c_slot_padded.inp [O_slot_padded] v (fun r' => r' = r) := by
  obtain ⟨s, ⟨⟩⟩ := v
  obtain ⟨h, rfl⟩ := h
  exact Eq.mpr (eq_slot_padded s _) (slot_padded.ok _ s h rfl)
theorem ctr_slot_padded : CtrOk Try.prog 96 c_slot_padded := ⟨⟨_, Try.func96, by kernel_rfl, by kernel_rfl⟩, fun H v r h => mk_ok _ (fs_slot_padded) (an := an_slot_padded) (outs := [O_slot_padded]) Try.func96 (by decide) (vc_slot_padded H v r h)⟩
abbrev I_slot_Block : Pat := { slots := [(0, .ag (.pair (.int .i64) (.pair (.int .i64) (.pair (.int .i64) (.int .i64)))))], ents := [] }
abbrev O_slot_Block : Pat := { slots := [(0, .ce (.v .str)), (1, .ce (.v (.int .i64)))], ents := [] }
def c_slot_Block : Ctr := { k0 := 0, inp := I_slot_Block, body := fun v => .ret ⟨O_slot_Block, ((Sp.blockS v.1).1, (Sp.blockS v.1).2, ())⟩, ex := 0 }
def an_slot_Block : Ann := [(5, { slots := [(4, .ce (.v .str)), (13, .ag (.arr 4 (.int .i64))), (14, .ce (.v (.int .i64)))], ents := [] })]
def cx_slot_Block : Cx := mkCx [(108, [c_slot_Slot_right]), (109, [c_slot_Slot_parts]), (107, [c_quill_Num]), (96, [c_slot_padded])]
theorem eq_slot_Block (s : (Int × (Int × (Int × Int)))) (R : ((p : Pat) × p.V) → Prop) : fnVc (cx_slot_Block) an_slot_Block 0 Try.f95 I_slot_Block [O_slot_Block] (s, ()) R = slot_Block.vc (fun y0 y1 => R ⟨O_slot_Block, (y0, y1, ())⟩) s := by kernel_rfl
theorem fs_slot_Block : CtrsOk Try.prog [(108, [c_slot_Slot_right]), (109, [c_slot_Slot_parts]), (107, [c_quill_Num]), (96, [c_slot_padded])] := ⟨ctr1 (ctr_slot_Slot_right), ctr1 (ctr_slot_Slot_parts), ctr1 (ctr_quill_Num), ctr1 (ctr_slot_padded), trivial⟩
theorem vc_slot_Block (H : Nat → Entry) (v : c_slot_Block.inp.V) (r : (p : Pat) × p.V) (h : (c_slot_Block.body v).Sel H r) : fnVc (cx_slot_Block) an_slot_Block 0 Try.f95 c_slot_Block.inp [O_slot_Block] v (fun r' => r' = r) := by
  obtain ⟨s, ⟨⟩⟩ := v
  obtain rfl := h
  exact Eq.mpr (eq_slot_Block s _) (slot_Block.ok _ s  rfl)
theorem ctr_slot_Block : CtrOk Try.prog 95 c_slot_Block := ⟨⟨_, Try.func95, by kernel_rfl, by kernel_rfl⟩, fun H v r h => mk_ok _ (fs_slot_Block) (an := an_slot_Block) (outs := [O_slot_Block]) Try.func95 (by decide) (vc_slot_Block H v r h)⟩
abbrev I_slot_Read : Pat := { slots := [(0, .ce (.v .str))], ents := [] }
abbrev O_slot_Read : Pat := { slots := [(0, .ag (.pair (.int .i64) (.pair (.int .i64) (.pair (.int .i64) (.int .i64))))), (1, .ce (.v .bool))], ents := [] }
def c_slot_Read : Ctr := { k0 := 0, inp := I_slot_Read, body := fun v => .need (Sp.readS.pre v.1) (.ret ⟨O_slot_Read, ((Sp.readS v.1).1, (Sp.readS v.1).2, ())⟩), ex := 0 }
def an_slot_Read : Ann := [(8, { slots := [(0, .ce (.v .str)), (2, .ce (.ptr 0 0)), (4, .ce (.v .str)), (6, .ce (.ptr 1 0)), (24, .ce (.v (.int .i64)))], ents := [.box 145 [.v (.int .i64), .v (.int .i64), .v (.int .i64), .v (.int .i64)], .abox 180 (.int .i64)] })]
def cx_slot_Read : Cx := mkCx [(110, [c_strings_CutPrefix]), (106, [c_quill_TakeNum]), (95, [c_slot_Block])]
theorem eq_slot_Read (b : Str) (R : ((p : Pat) × p.V) → Prop) : fnVc (cx_slot_Read) an_slot_Read 0 Try.f99 I_slot_Read [O_slot_Read] (b, ()) R = slot_Read.vc (fun y0 y1 => R ⟨O_slot_Read, (y0, y1, ())⟩) b := by kernel_rfl
theorem fs_slot_Read : CtrsOk Try.prog [(110, [c_strings_CutPrefix]), (106, [c_quill_TakeNum]), (95, [c_slot_Block])] := ⟨ctr1 (ctr_strings_CutPrefix), ctr1 (ctr_quill_TakeNum), ctr1 (ctr_slot_Block), trivial⟩
theorem vc_slot_Read (H : Nat → Entry) (v : c_slot_Read.inp.V) (r : (p : Pat) × p.V) (h : (c_slot_Read.body v).Sel H r) : fnVc (cx_slot_Read) an_slot_Read 0 Try.f99 c_slot_Read.inp [O_slot_Read] v (fun r' => r' = r) := by
  obtain ⟨b, ⟨⟩⟩ := v
  obtain ⟨h, rfl⟩ := h
  exact Eq.mpr (eq_slot_Read b _) (slot_Read.ok _ b h rfl)
theorem ctr_slot_Read : CtrOk Try.prog 99 c_slot_Read := ⟨⟨_, Try.func99, by kernel_rfl, by kernel_rfl⟩, fun H v r h => mk_ok _ (fs_slot_Read) (an := an_slot_Read) (outs := [O_slot_Read]) Try.func99 (by decide) (vc_slot_Read H v r h)⟩
abbrev I_slot_Choose : Pat := { slots := [(0, .ce (.ptr 0 0))], ents := [.box 96 [.os 1, .os 2, .v .bool, .v .bool, .v (.int .i64), .v .bool, .v (.sl (.int .i64))], .row 89 (.arr 4 .str), .row 101 (.pair (.int .i64) (.arr 4 .str))] }
abbrev O_slot_Choose : Pat := { slots := [(0, .ag (.pair (.int .i64) (.pair (.int .i64) (.pair (.int .i64) (.int .i64))))), (1, .ce (.v (.int .i64))), (2, .ce (.v (.int .i64)))], ents := [.box 96 [.os 1, .os 2, .v .bool, .v .bool, .v (.int .i64), .v .bool, .v (.sl (.int .i64))], .row 89 (.arr 4 .str), .row 101 (.pair (.int .i64) (.arr 4 .str))] }
def c_slot_Choose : Ctr := { k0 := 1, inp := I_slot_Choose, body := fun v => .need (Sp.dPre (v.1, v.2.1, v.2.2.1, v.2.2.2.1, v.2.2.2.2.1, v.2.2.2.2.2.1, v.2.2.2.2.2.2.1)) (.ret ⟨O_slot_Choose, ((Sp.chooseS (v.1, v.2.1, v.2.2.1, v.2.2.2.1, v.2.2.2.2.1, v.2.2.2.2.2.1, v.2.2.2.2.2.2.1)).1, (Sp.chooseS (v.1, v.2.1, v.2.2.1, v.2.2.2.1, v.2.2.2.2.1, v.2.2.2.2.2.1, v.2.2.2.2.2.2.1)).2.1, (Sp.chooseS (v.1, v.2.1, v.2.2.1, v.2.2.2.1, v.2.2.2.2.1, v.2.2.2.2.2.1, v.2.2.2.2.2.2.1)).2.2, v.1, v.2.1, v.2.2.1, v.2.2.2.1, v.2.2.2.2.1, v.2.2.2.2.2.1, v.2.2.2.2.2.2.1, ())⟩), ex := 0 }
def an_slot_Choose : Ann := [(3, { slots := [(0, .ce (.ptr 0 0)), (2, .ce (.ptr 3 0)), (5, .ce (.ptr 4 0)), (6, .ce (.v (.int .i64))), (13, .ce (.v (.int .i64)))], ents := [.box 96 [.os 1, .os 2, .v .bool, .v .bool, .v (.int .i64), .v .bool, .v (.sl (.int .i64))], .row 89 (.arr 4 .str), .row 101 (.pair (.int .i64) (.arr 4 .str)), .box 145 [.v (.int .i64), .v (.int .i64), .v (.int .i64), .v (.int .i64)], .box 145 [.v (.int .i64), .v (.int .i64), .v (.int .i64), .v (.int .i64)]] })]
def cx_slot_Choose : Cx := mkCx [(58, [c_disk_Disk_Read, c_disk_Read_nil]), (99, [c_slot_Read])]
theorem eq_slot_Choose (down : Bool) (armed : Bool) (after : Int) (acut : Bool) (keep : (List Int)) (bs : (List (List Str))) (ws : (List (Int × (List Str)))) (R : ((p : Pat) × p.V) → Prop) : fnVc (cx_slot_Choose) an_slot_Choose 1 Try.f83 I_slot_Choose [O_slot_Choose] (down, armed, after, acut, keep, bs, ws, ()) R = slot_Choose.vc (fun y0 y1 y2 y3 y4 y5 y6 y7 y8 y9 => R ⟨O_slot_Choose, (y0, y1, y2, y3, y4, y5, y6, y7, y8, y9, ())⟩) down armed after acut keep bs ws := by kernel_rfl
theorem fs_slot_Choose : CtrsOk Try.prog [(58, [c_disk_Disk_Read, c_disk_Read_nil]), (99, [c_slot_Read])] := ⟨(ctrC (ctr_disk_Disk_Read) (ctr1 (ctr_disk_Read_nil))), ctr1 (ctr_slot_Read), trivial⟩
theorem vc_slot_Choose (H : Nat → Entry) (v : c_slot_Choose.inp.V) (r : (p : Pat) × p.V) (h : (c_slot_Choose.body v).Sel H r) : fnVc (cx_slot_Choose) an_slot_Choose 1 Try.f83 c_slot_Choose.inp [O_slot_Choose] v (fun r' => r' = r) := by
  obtain ⟨down, armed, after, acut, keep, bs, ws, ⟨⟩⟩ := v
  obtain ⟨h, rfl⟩ := h
  exact Eq.mpr (eq_slot_Choose down armed after acut keep bs ws _) (slot_Choose.ok _ down armed after acut keep bs ws h rfl)
theorem ctr_slot_Choose : CtrOk Try.prog 83 c_slot_Choose := ⟨⟨_, Try.func83, by kernel_rfl, by kernel_rfl⟩, fun H v r h => mk_ok _ (fs_slot_Choose) (an := an_slot_Choose) (outs := [O_slot_Choose]) Try.func83 (by decide) (vc_slot_Choose H v r h)⟩
abbrev I_slot_Put : Pat := { slots := [(0, .ce (.ptr 0 0)), (1, .ag (.pair (.int .i64) (.pair (.int .i64) (.pair (.int .i64) (.int .i64)))))], ents := [.box 96 [.os 1, .os 2, .v .bool, .v .bool, .v (.int .i64), .v .bool, .v (.sl (.int .i64))], .row 89 (.arr 4 .str), .row 101 (.pair (.int .i64) (.arr 4 .str))] }
abbrev O_slot_Put : Pat := { slots := [(0, .ce (.v (.int .i64)))], ents := [.box 96 [.os 1, .os 2, .v .bool, .v .bool, .v (.int .i64), .v .bool, .v (.sl (.int .i64))], .row 89 (.arr 4 .str), .row 101 (.pair (.int .i64) (.arr 4 .str))] }
def c_slot_Put : Ctr := { k0 := 1, inp := I_slot_Put, body := fun v => .need (Sp.putS.pre v.1 (v.2.1, v.2.2.1, v.2.2.2.1, v.2.2.2.2.1, v.2.2.2.2.2.1, v.2.2.2.2.2.2.1, v.2.2.2.2.2.2.2.1)) (.ret ⟨O_slot_Put, ((Sp.putS v.1 (v.2.1, v.2.2.1, v.2.2.2.1, v.2.2.2.2.1, v.2.2.2.2.2.1, v.2.2.2.2.2.2.1, v.2.2.2.2.2.2.2.1)).2, (Sp.putS v.1 (v.2.1, v.2.2.1, v.2.2.2.1, v.2.2.2.2.1, v.2.2.2.2.2.1, v.2.2.2.2.2.2.1, v.2.2.2.2.2.2.2.1)).1.1, (Sp.putS v.1 (v.2.1, v.2.2.1, v.2.2.2.1, v.2.2.2.2.1, v.2.2.2.2.2.1, v.2.2.2.2.2.2.1, v.2.2.2.2.2.2.2.1)).1.2.1, (Sp.putS v.1 (v.2.1, v.2.2.1, v.2.2.2.1, v.2.2.2.2.1, v.2.2.2.2.2.1, v.2.2.2.2.2.2.1, v.2.2.2.2.2.2.2.1)).1.2.2.1, (Sp.putS v.1 (v.2.1, v.2.2.1, v.2.2.2.1, v.2.2.2.2.1, v.2.2.2.2.2.1, v.2.2.2.2.2.2.1, v.2.2.2.2.2.2.2.1)).1.2.2.2.1, (Sp.putS v.1 (v.2.1, v.2.2.1, v.2.2.2.1, v.2.2.2.2.1, v.2.2.2.2.2.1, v.2.2.2.2.2.2.1, v.2.2.2.2.2.2.2.1)).1.2.2.2.2.1, (Sp.putS v.1 (v.2.1, v.2.2.1, v.2.2.2.1, v.2.2.2.2.1, v.2.2.2.2.2.1, v.2.2.2.2.2.2.1, v.2.2.2.2.2.2.2.1)).1.2.2.2.2.2.1, (Sp.putS v.1 (v.2.1, v.2.2.1, v.2.2.2.1, v.2.2.2.2.1, v.2.2.2.2.2.1, v.2.2.2.2.2.2.1, v.2.2.2.2.2.2.2.1)).1.2.2.2.2.2.2, ())⟩), ex := 0 }
def an_slot_Put : Ann := []
def cx_slot_Put : Cx := mkCx [(83, [c_slot_Choose]), (95, [c_slot_Block]), (14, [c_disk_Disk_Write, c_disk_Write_nil]), (28, [c_disk_Disk_Flush, c_disk_Flush_nil])]
theorem eq_slot_Put (s : (Int × (Int × (Int × Int)))) (down : Bool) (armed : Bool) (after : Int) (acut : Bool) (keep : (List Int)) (bs : (List (List Str))) (ws : (List (Int × (List Str)))) (R : ((p : Pat) × p.V) → Prop) : fnVc (cx_slot_Put) an_slot_Put 1 Try.f97 I_slot_Put [O_slot_Put] (s, down, armed, after, acut, keep, bs, ws, ()) R = slot_Put.vc (fun y0 y1 y2 y3 y4 y5 y6 y7 => R ⟨O_slot_Put, (y0, y1, y2, y3, y4, y5, y6, y7, ())⟩) s down armed after acut keep bs ws := by kernel_rfl
theorem fs_slot_Put : CtrsOk Try.prog [(83, [c_slot_Choose]), (95, [c_slot_Block]), (14, [c_disk_Disk_Write, c_disk_Write_nil]), (28, [c_disk_Disk_Flush, c_disk_Flush_nil])] := ⟨ctr1 (ctr_slot_Choose), ctr1 (ctr_slot_Block), (ctrC (ctr_disk_Disk_Write) (ctr1 (ctr_disk_Write_nil))), (ctrC (ctr_disk_Disk_Flush) (ctr1 (ctr_disk_Flush_nil))), trivial⟩
theorem vc_slot_Put (H : Nat → Entry) (v : c_slot_Put.inp.V) (r : (p : Pat) × p.V) (h : (c_slot_Put.body v).Sel H r) : fnVc (cx_slot_Put) an_slot_Put 1 Try.f97 c_slot_Put.inp [O_slot_Put] v (fun r' => r' = r) := by
  obtain ⟨s, down, armed, after, acut, keep, bs, ws, ⟨⟩⟩ := v
  obtain ⟨h, rfl⟩ := h
  exact Eq.mpr (eq_slot_Put s down armed after acut keep bs ws _) (slot_Put.ok _ s down armed after acut keep bs ws h rfl)
theorem ctr_slot_Put : CtrOk Try.prog 97 c_slot_Put := ⟨⟨_, Try.func97, by kernel_rfl, by kernel_rfl⟩, fun H v r h => mk_ok _ (fs_slot_Put) (an := an_slot_Put) (outs := [O_slot_Put]) Try.func97 (by decide) (vc_slot_Put H v r h)⟩
abbrev I_slot_Format : Pat := { slots := [(0, .ce (.ptr 0 0))], ents := [.box 96 [.os 1, .os 2, .v .bool, .v .bool, .v (.int .i64), .v .bool, .v (.sl (.int .i64))], .row 89 (.arr 4 .str), .row 101 (.pair (.int .i64) (.arr 4 .str))] }
abbrev O_slot_Format : Pat := { slots := [(0, .ce (.v (.int .i64)))], ents := [.box 96 [.os 1, .os 2, .v .bool, .v .bool, .v (.int .i64), .v .bool, .v (.sl (.int .i64))], .row 89 (.arr 4 .str), .row 101 (.pair (.int .i64) (.arr 4 .str))] }
def c_slot_Format : Ctr := { k0 := 1, inp := I_slot_Format, body := fun v => .need (Sp.dPre9s  (v.1, v.2.1, v.2.2.1, v.2.2.2.1, v.2.2.2.2.1, v.2.2.2.2.2.1, v.2.2.2.2.2.2.1)) (.ret ⟨O_slot_Format, ((Sp.formatS  (v.1, v.2.1, v.2.2.1, v.2.2.2.1, v.2.2.2.2.1, v.2.2.2.2.2.1, v.2.2.2.2.2.2.1)).2, (Sp.formatS  (v.1, v.2.1, v.2.2.1, v.2.2.2.1, v.2.2.2.2.1, v.2.2.2.2.2.1, v.2.2.2.2.2.2.1)).1.1, (Sp.formatS  (v.1, v.2.1, v.2.2.1, v.2.2.2.1, v.2.2.2.2.1, v.2.2.2.2.2.1, v.2.2.2.2.2.2.1)).1.2.1, (Sp.formatS  (v.1, v.2.1, v.2.2.1, v.2.2.2.1, v.2.2.2.2.1, v.2.2.2.2.2.1, v.2.2.2.2.2.2.1)).1.2.2.1, (Sp.formatS  (v.1, v.2.1, v.2.2.1, v.2.2.2.1, v.2.2.2.2.1, v.2.2.2.2.2.1, v.2.2.2.2.2.2.1)).1.2.2.2.1, (Sp.formatS  (v.1, v.2.1, v.2.2.1, v.2.2.2.1, v.2.2.2.2.1, v.2.2.2.2.2.1, v.2.2.2.2.2.2.1)).1.2.2.2.2.1, (Sp.formatS  (v.1, v.2.1, v.2.2.1, v.2.2.2.1, v.2.2.2.2.1, v.2.2.2.2.2.1, v.2.2.2.2.2.2.1)).1.2.2.2.2.2.1, (Sp.formatS  (v.1, v.2.1, v.2.2.1, v.2.2.2.1, v.2.2.2.2.1, v.2.2.2.2.2.1, v.2.2.2.2.2.2.1)).1.2.2.2.2.2.2, ())⟩), ex := 0 }
def an_slot_Format : Ann := [(3, { slots := [(0, .ce (.ptr 0 0)), (15, .ag (.arr 2 .str)), (16, .ce (.v (.int .i64)))], ents := [.box 96 [.os 1, .os 2, .v .bool, .v .bool, .v (.int .i64), .v .bool, .v (.sl (.int .i64))], .row 89 (.arr 4 .str), .row 101 (.pair (.int .i64) (.arr 4 .str))] })]
def cx_slot_Format : Cx := mkCx [(95, [c_slot_Block]), (96, [c_slot_padded]), (14, [c_disk_Disk_Write, c_disk_Write_nil]), (28, [c_disk_Disk_Flush, c_disk_Flush_nil])]
theorem eq_slot_Format (down : Bool) (armed : Bool) (after : Int) (acut : Bool) (keep : (List Int)) (bs : (List (List Str))) (ws : (List (Int × (List Str)))) (R : ((p : Pat) × p.V) → Prop) : fnVc (cx_slot_Format) an_slot_Format 1 Try.f78 I_slot_Format [O_slot_Format] (down, armed, after, acut, keep, bs, ws, ()) R = slot_Format.vc (fun y0 y1 y2 y3 y4 y5 y6 y7 => R ⟨O_slot_Format, (y0, y1, y2, y3, y4, y5, y6, y7, ())⟩) down armed after acut keep bs ws := by kernel_rfl
theorem fs_slot_Format : CtrsOk Try.prog [(95, [c_slot_Block]), (96, [c_slot_padded]), (14, [c_disk_Disk_Write, c_disk_Write_nil]), (28, [c_disk_Disk_Flush, c_disk_Flush_nil])] := ⟨ctr1 (ctr_slot_Block), ctr1 (ctr_slot_padded), (ctrC (ctr_disk_Disk_Write) (ctr1 (ctr_disk_Write_nil))), (ctrC (ctr_disk_Disk_Flush) (ctr1 (ctr_disk_Flush_nil))), trivial⟩
theorem vc_slot_Format (H : Nat → Entry) (v : c_slot_Format.inp.V) (r : (p : Pat) × p.V) (h : (c_slot_Format.body v).Sel H r) : fnVc (cx_slot_Format) an_slot_Format 1 Try.f78 c_slot_Format.inp [O_slot_Format] v (fun r' => r' = r) := by
  obtain ⟨down, armed, after, acut, keep, bs, ws, ⟨⟩⟩ := v
  obtain ⟨h, rfl⟩ := h
  exact Eq.mpr (eq_slot_Format down armed after acut keep bs ws _) (slot_Format.ok _ down armed after acut keep bs ws h rfl)
theorem ctr_slot_Format : CtrOk Try.prog 78 c_slot_Format := ⟨⟨_, Try.func78, by kernel_rfl, by kernel_rfl⟩, fun H v r h => mk_ok _ (fs_slot_Format) (an := an_slot_Format) (outs := [O_slot_Format]) Try.func78 (by decide) (vc_slot_Format H v r h)⟩
end Vs
