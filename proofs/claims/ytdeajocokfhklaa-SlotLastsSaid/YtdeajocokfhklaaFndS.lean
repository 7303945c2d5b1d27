/- Functions held against what they tell. Written by a program of this session. -/
import Derived.Test.YtdeajocokfhklaaPlS
import Derived.Test.YtdeajocokfhklaaViThree
import Derived.Test.YtdeajocokfhklaaFndN
set_option linter.unnecessarySimpa false
set_option linter.unusedVariables false
set_option linter.unusedSectionVars false
set_option linter.unusedSimpArgs false
set_option autoImplicit false
set_option linter.unusedVariables false
set_option maxRecDepth 100000
attribute [local irreducible] Vi.fnVc
namespace Vs
open Go Vi Go.Proofs
abbrev I_internal_stringslite_HasPrefix : Pat := { slots := [(0, .ce (.v .str)), (1, .ce (.v .str))], ents := [] }
abbrev O_internal_stringslite_HasPrefix : Pat := { slots := [(0, .ce (.v .bool))], ents := [] }
def c_internal_stringslite_HasPrefix : Ctr := { k0 := 0, inp := I_internal_stringslite_HasPrefix, body := fun v => .need (Sp.preB.pre v.1 v.2.1) (.ret ⟨O_internal_stringslite_HasPrefix, ((Sp.preB v.1 v.2.1), ())⟩), ex := 0 }
def an_internal_stringslite_HasPrefix : Ann := []
def cx_internal_stringslite_HasPrefix : Cx := mkCx []
theorem eq_internal_stringslite_HasPrefix (s : Str) (prefix_ : Str) (R : ((p : Pat) × p.V) → Prop) : fnVc (cx_internal_stringslite_HasPrefix) an_internal_stringslite_HasPrefix 0 Try.f78 I_internal_stringslite_HasPrefix [O_internal_stringslite_HasPrefix] (s, prefix_, ()) R = internal_stringslite_HasPrefix.vc (fun y0 => R ⟨O_internal_stringslite_HasPrefix, (y0, ())⟩) s prefix_ := by kernel_rfl
theorem fs_internal_stringslite_HasPrefix : CtrsOk Try.prog [] := trivial
theorem vc_internal_stringslite_HasPrefix (H : Nat → Entry) (v : c_internal_stringslite_HasPrefix.inp.V) (r : (p : Pat) × p.V) (h : (c_internal_stringslite_HasPrefix.body v).Sel H r) : fnVc (cx_internal_stringslite_HasPrefix) an_internal_stringslite_HasPrefix 0 Try.f78 c_internal_stringslite_HasPrefix.inp [O_internal_stringslite_HasPrefix] v (fun r' => r' = r) := by
  obtain ⟨s, prefix_, ⟨⟩⟩ := v
  obtain ⟨h, rfl⟩ := h
  exact Eq.mpr (eq_internal_stringslite_HasPrefix s prefix_ _) (internal_stringslite_HasPrefix.ok _ s prefix_ h rfl)
theorem ctr_internal_stringslite_HasPrefix : CtrOk Try.prog 78 c_internal_stringslite_HasPrefix := ⟨⟨_, Try.func78, by kernel_rfl, by kernel_rfl⟩, fun H v r h => mk_ok _ (fs_internal_stringslite_HasPrefix) (an := an_internal_stringslite_HasPrefix) (outs := [O_internal_stringslite_HasPrefix]) Try.func78 (by decide) (vc_internal_stringslite_HasPrefix H v r h)⟩
abbrev I_internal_stringslite_CutPrefix : Pat := { slots := [(0, .ce (.v .str)), (1, .ce (.v .str))], ents := [] }
abbrev O_internal_stringslite_CutPrefix : Pat := { slots := [(0, .ce (.v .str)), (1, .ce (.v .bool))], ents := [] }
def c_internal_stringslite_CutPrefix : Ctr := { k0 := 0, inp := I_internal_stringslite_CutPrefix, body := fun v => .need (Sp.preB.pre v.1 v.2.1) (.ret ⟨O_internal_stringslite_CutPrefix, ((Sp.cutP v.1 v.2.1).1, (Sp.cutP v.1 v.2.1).2, ())⟩), ex := 0 }
def an_internal_stringslite_CutPrefix : Ann := []
def cx_internal_stringslite_CutPrefix : Cx := mkCx [(78, [c_internal_stringslite_HasPrefix])]
theorem eq_internal_stringslite_CutPrefix (s : Str) (prefix_ : Str) (R : ((p : Pat) × p.V) → Prop) : fnVc (cx_internal_stringslite_CutPrefix) an_internal_stringslite_CutPrefix 0 Try.f72 I_internal_stringslite_CutPrefix [O_internal_stringslite_CutPrefix] (s, prefix_, ()) R = internal_stringslite_CutPrefix.vc (fun y0 y1 => R ⟨O_internal_stringslite_CutPrefix, (y0, y1, ())⟩) s prefix_ := by kernel_rfl
theorem fs_internal_stringslite_CutPrefix : CtrsOk Try.prog [(78, [c_internal_stringslite_HasPrefix])] := ⟨ctr1 (ctr_internal_stringslite_HasPrefix), trivial⟩
theorem vc_internal_stringslite_CutPrefix (H : Nat → Entry) (v : c_internal_stringslite_CutPrefix.inp.V) (r : (p : Pat) × p.V) (h : (c_internal_stringslite_CutPrefix.body v).Sel H r) : fnVc (cx_internal_stringslite_CutPrefix) an_internal_stringslite_CutPrefix 0 Try.f72 c_internal_stringslite_CutPrefix.inp [O_internal_stringslite_CutPrefix] v (fun r' => r' = r) := by
  obtain ⟨s, prefix_, ⟨⟩⟩ := v
  obtain ⟨h, rfl⟩ := h
  exact Eq.mpr (eq_internal_stringslite_CutPrefix s prefix_ _) (internal_stringslite_CutPrefix.ok _ s prefix_ h rfl)
theorem ctr_internal_stringslite_CutPrefix : CtrOk Try.prog 72 c_internal_stringslite_CutPrefix := ⟨⟨_, Try.func72, by kernel_rfl, by kernel_rfl⟩, fun H v r h => mk_ok _ (fs_internal_stringslite_CutPrefix) (an := an_internal_stringslite_CutPrefix) (outs := [O_internal_stringslite_CutPrefix]) Try.func72 (by decide) (vc_internal_stringslite_CutPrefix H v r h)⟩
abbrev I_strings_CutPrefix : Pat := { slots := [(0, .ce (.v .str)), (1, .ce (.v .str))], ents := [] }
abbrev O_strings_CutPrefix : Pat := { slots := [(0, .ce (.v .str)), (1, .ce (.v .bool))], ents := [] }
def c_strings_CutPrefix : Ctr := { k0 := 0, inp := I_strings_CutPrefix, body := fun v => .need (Sp.preB.pre v.1 v.2.1) (.ret ⟨O_strings_CutPrefix, ((Sp.cutP v.1 v.2.1).1, (Sp.cutP v.1 v.2.1).2, ())⟩), ex := 0 }
def an_strings_CutPrefix : Ann := []
def cx_strings_CutPrefix : Cx := mkCx [(72, [c_internal_stringslite_CutPrefix])]
theorem eq_strings_CutPrefix (s : Str) (prefix_ : Str) (R : ((p : Pat) × p.V) → Prop) : fnVc (cx_strings_CutPrefix) an_strings_CutPrefix 0 Try.f56 I_strings_CutPrefix [O_strings_CutPrefix] (s, prefix_, ()) R = strings_CutPrefix.vc (fun y0 y1 => R ⟨O_strings_CutPrefix, (y0, y1, ())⟩) s prefix_ := by kernel_rfl
theorem fs_strings_CutPrefix : CtrsOk Try.prog [(72, [c_internal_stringslite_CutPrefix])] := ⟨ctr1 (ctr_internal_stringslite_CutPrefix), trivial⟩
theorem vc_strings_CutPrefix (H : Nat → Entry) (v : c_strings_CutPrefix.inp.V) (r : (p : Pat) × p.V) (h : (c_strings_CutPrefix.body v).Sel H r) : fnVc (cx_strings_CutPrefix) an_strings_CutPrefix 0 Try.f56 c_strings_CutPrefix.inp [O_strings_CutPrefix] v (fun r' => r' = r) := by
  obtain ⟨s, prefix_, ⟨⟩⟩ := v
  obtain ⟨h, rfl⟩ := h
  exact Eq.mpr (eq_strings_CutPrefix s prefix_ _) (strings_CutPrefix.ok _ s prefix_ h rfl)
theorem ctr_strings_CutPrefix : CtrOk Try.prog 56 c_strings_CutPrefix := ⟨⟨_, Try.func56, by kernel_rfl, by kernel_rfl⟩, fun H v r h => mk_ok _ (fs_strings_CutPrefix) (an := an_strings_CutPrefix) (outs := [O_strings_CutPrefix]) Try.func56 (by decide) (vc_strings_CutPrefix H v r h)⟩
abbrev I_slot_Slot_parts : Pat := { slots := [(0, .ag (.pair (.int .i64) (.pair (.int .i64) (.pair (.int .i64) (.int .i64)))))], ents := [] }
abbrev O_slot_Slot_parts : Pat := { slots := [(0, .ag (.arr 4 (.int .i64)))], ents := [] }
def c_slot_Slot_parts : Ctr := { k0 := 0, inp := I_slot_Slot_parts, body := fun v => .ret ⟨O_slot_Slot_parts, ((Sp.partsS v.1), ())⟩, ex := 0 }
def an_slot_Slot_parts : Ann := []
def cx_slot_Slot_parts : Cx := mkCx []
theorem eq_slot_Slot_parts (s : (Int × (Int × (Int × Int)))) (R : ((p : Pat) × p.V) → Prop) : fnVc (cx_slot_Slot_parts) an_slot_Slot_parts 0 Try.f53 I_slot_Slot_parts [O_slot_Slot_parts] (s, ()) R = slot_Slot_parts.vc (fun y0 => R ⟨O_slot_Slot_parts, (y0, ())⟩) s := by kernel_rfl
theorem fs_slot_Slot_parts : CtrsOk Try.prog [] := trivial
theorem vc_slot_Slot_parts (H : Nat → Entry) (v : c_slot_Slot_parts.inp.V) (r : (p : Pat) × p.V) (h : (c_slot_Slot_parts.body v).Sel H r) : fnVc (cx_slot_Slot_parts) an_slot_Slot_parts 0 Try.f53 c_slot_Slot_parts.inp [O_slot_Slot_parts] v (fun r' => r' = r) := by
  obtain ⟨s, ⟨⟩⟩ := v
  obtain rfl := h
  exact Eq.mpr (eq_slot_Slot_parts s _) (slot_Slot_parts.ok _ s  rfl)
theorem ctr_slot_Slot_parts : CtrOk Try.prog 53 c_slot_Slot_parts := ⟨⟨_, Try.func53, by kernel_rfl, by kernel_rfl⟩, fun H v r h => mk_ok _ (fs_slot_Slot_parts) (an := an_slot_Slot_parts) (outs := [O_slot_Slot_parts]) Try.func53 (by decide) (vc_slot_Slot_parts H v r h)⟩
abbrev I_slot_Slot_right_1 : Pat := { slots := [(0, .ce (.v (.int .i64)))], ents := [] }
abbrev O_slot_Slot_right_1 : Pat := { slots := [(0, .ce (.v .bool))], ents := [] }
def c_slot_Slot_right_1 : Ctr := { k0 := 0, inp := I_slot_Slot_right_1, body := fun v => .ret ⟨O_slot_Slot_right_1, ((Sp.countS v.1), ())⟩, ex := 0 }
def an_slot_Slot_right_1 : Ann := []
def cx_slot_Slot_right_1 : Cx := mkCx []
theorem eq_slot_Slot_right_1 (n : Int) (R : ((p : Pat) × p.V) → Prop) : fnVc (cx_slot_Slot_right_1) an_slot_Slot_right_1 0 Try.f70 I_slot_Slot_right_1 [O_slot_Slot_right_1] (n, ()) R = slot_Slot_right_1.vc (fun y0 => R ⟨O_slot_Slot_right_1, (y0, ())⟩) n := by kernel_rfl
theorem fs_slot_Slot_right_1 : CtrsOk Try.prog [] := trivial
theorem vc_slot_Slot_right_1 (H : Nat → Entry) (v : c_slot_Slot_right_1.inp.V) (r : (p : Pat) × p.V) (h : (c_slot_Slot_right_1.body v).Sel H r) : fnVc (cx_slot_Slot_right_1) an_slot_Slot_right_1 0 Try.f70 c_slot_Slot_right_1.inp [O_slot_Slot_right_1] v (fun r' => r' = r) := by
  obtain ⟨n, ⟨⟩⟩ := v
  obtain rfl := h
  exact Eq.mpr (eq_slot_Slot_right_1 n _) (slot_Slot_right_1.ok _ n  rfl)
theorem ctr_slot_Slot_right_1 : CtrOk Try.prog 70 c_slot_Slot_right_1 := ⟨⟨_, Try.func70, by kernel_rfl, by kernel_rfl⟩, fun H v r h => mk_ok _ (fs_slot_Slot_right_1) (an := an_slot_Slot_right_1) (outs := [O_slot_Slot_right_1]) Try.func70 (by decide) (vc_slot_Slot_right_1 H v r h)⟩
abbrev I_slot_Slot_right : Pat := { slots := [(0, .ag (.pair (.int .i64) (.pair (.int .i64) (.pair (.int .i64) (.int .i64)))))], ents := [] }
abbrev O_slot_Slot_right : Pat := { slots := [(0, .ce (.v .bool))], ents := [] }
def c_slot_Slot_right : Ctr := { k0 := 0, inp := I_slot_Slot_right, body := fun v => .ret ⟨O_slot_Slot_right, ((Sp.rightS v.1), ())⟩, ex := 0 }
def an_slot_Slot_right : Ann := []
def cx_slot_Slot_right : Cx := mkCx [(70, [c_slot_Slot_right_1])]
theorem eq_slot_Slot_right (s : (Int × (Int × (Int × Int)))) (R : ((p : Pat) × p.V) → Prop) : fnVc (cx_slot_Slot_right) an_slot_Slot_right 0 Try.f52 I_slot_Slot_right [O_slot_Slot_right] (s, ()) R = slot_Slot_right.vc (fun y0 => R ⟨O_slot_Slot_right, (y0, ())⟩) s := by kernel_rfl
theorem fs_slot_Slot_right : CtrsOk Try.prog [(70, [c_slot_Slot_right_1])] := ⟨ctr1 (ctr_slot_Slot_right_1), trivial⟩
theorem vc_slot_Slot_right (H : Nat → Entry) (v : c_slot_Slot_right.inp.V) (r : (p : Pat) × p.V) (h : (c_slot_Slot_right.body v).Sel H r) : fnVc (cx_slot_Slot_right) an_slot_Slot_right 0 Try.f52 c_slot_Slot_right.inp [O_slot_Slot_right] v (fun r' => r' = r) := by
  obtain ⟨s, ⟨⟩⟩ := v
  obtain rfl := h
  exact Eq.mpr (eq_slot_Slot_right s _) (slot_Slot_right.ok _ s  rfl)
theorem ctr_slot_Slot_right : CtrOk Try.prog 52 c_slot_Slot_right := ⟨⟨_, Try.func52, by kernel_rfl, by kernel_rfl⟩, fun H v r h => mk_ok _ (fs_slot_Slot_right) (an := an_slot_Slot_right) (outs := [O_slot_Slot_right]) Try.func52 (by decide) (vc_slot_Slot_right H v r h)⟩
abbrev I_slot_padded : Pat := { slots := [(0, .ce (.v .str))], ents := [] }
abbrev O_slot_padded : Pat := { slots := [(0, .ce (.v .str))], ents := [] }
def c_slot_padded : Ctr := { k0 := 0, inp := I_slot_padded, body := fun v => .need (Sp.padS.pre v.1) (.ret ⟨O_slot_padded, ((Sp.padS v.1), ())⟩), ex := 0 }
def an_slot_padded : Ann := []
def cx_slot_padded : Cx := mkCx [(41, [c_strings_Repeat])]
theorem eq_slot_padded (s : Str) (R : ((p : Pat) × p.V) → Prop) : fnVc (cx_slot_padded) an_slot_padded 0 Try.f55 I_slot_padded [O_slot_padded] (s, ()) R = slot_padded.vc (fun y0 => R ⟨O_slot_padded, (y0, ())⟩) s := by kernel_rfl
theorem fs_slot_padded : CtrsOk Try.prog [(41, [c_strings_Repeat])] := ⟨ctr1 (ctr_strings_Repeat), trivial⟩
theorem vc_slot_padded (H : Nat → Entry) (v : c_slot_padded.inp.V) (r : (p : Pat) × p.V) (h : (c_slot_padded.body v).Sel H r) : fnVc (cx_slot_padded) an_slot_padded 0 Try.f55 c_slot_padded.inp [O_slot_padded] v (fun r' => r' = r) := by
  obtain ⟨s, ⟨⟩⟩ := v
  obtain ⟨h, rfl⟩ := h
  exact Eq.mpr (eq_slot_padded s _) (slot_padded.ok _ s h rfl)
theorem ctr_slot_padded : CtrOk Try.prog 55 c_slot_padded := ⟨⟨_, Try.func55, by kernel_rfl, by kernel_rfl⟩, fun H v r h => mk_ok _ (fs_slot_padded) (an := an_slot_padded) (outs := [O_slot_padded]) Try.func55 (by decide) (vc_slot_padded H v r h)⟩
abbrev I_slot_Block : Pat := { slots := [(0, .ag (.pair (.int .i64) (.pair (.int .i64) (.pair (.int .i64) (.int .i64)))))], ents := [] }
abbrev O_slot_Block : Pat := { slots := [(0, .ce (.v .str)), (1, .ce (.v (.int .i64)))], ents := [] }
def c_slot_Block : Ctr := { k0 := 0, inp := I_slot_Block, body := fun v => .ret ⟨O_slot_Block, ((Sp.blockS v.1).1, (Sp.blockS v.1).2, ())⟩, ex := 0 }
def an_slot_Block : Ann := [(5, { slots := [(4, .ce (.v .str)), (13, .ag (.arr 4 (.int .i64))), (14, .ce (.v (.int .i64)))], ents := [] })]
def cx_slot_Block : Cx := mkCx [(52, [c_slot_Slot_right]), (53, [c_slot_Slot_parts]), (54, [c_quill_Num]), (55, [c_slot_padded])]
theorem eq_slot_Block (s : (Int × (Int × (Int × Int)))) (R : ((p : Pat) × p.V) → Prop) : fnVc (cx_slot_Block) an_slot_Block 0 Try.f30 I_slot_Block [O_slot_Block] (s, ()) R = slot_Block.vc (fun y0 y1 => R ⟨O_slot_Block, (y0, y1, ())⟩) s := by kernel_rfl
theorem fs_slot_Block : CtrsOk Try.prog [(52, [c_slot_Slot_right]), (53, [c_slot_Slot_parts]), (54, [c_quill_Num]), (55, [c_slot_padded])] := ⟨ctr1 (ctr_slot_Slot_right), ctr1 (ctr_slot_Slot_parts), ctr1 (ctr_quill_Num), ctr1 (ctr_slot_padded), trivial⟩
theorem vc_slot_Block (H : Nat → Entry) (v : c_slot_Block.inp.V) (r : (p : Pat) × p.V) (h : (c_slot_Block.body v).Sel H r) : fnVc (cx_slot_Block) an_slot_Block 0 Try.f30 c_slot_Block.inp [O_slot_Block] v (fun r' => r' = r) := by
  obtain ⟨s, ⟨⟩⟩ := v
  obtain rfl := h
  exact Eq.mpr (eq_slot_Block s _) (slot_Block.ok _ s  rfl)
theorem ctr_slot_Block : CtrOk Try.prog 30 c_slot_Block := ⟨⟨_, Try.func30, by kernel_rfl, by kernel_rfl⟩, fun H v r h => mk_ok _ (fs_slot_Block) (an := an_slot_Block) (outs := [O_slot_Block]) Try.func30 (by decide) (vc_slot_Block H v r h)⟩
abbrev I_slot_Read : Pat := { slots := [(0, .ce (.v .str))], ents := [] }
abbrev O_slot_Read : Pat := { slots := [(0, .ag (.pair (.int .i64) (.pair (.int .i64) (.pair (.int .i64) (.int .i64))))), (1, .ce (.v .bool))], ents := [] }
def c_slot_Read : Ctr := { k0 := 0, inp := I_slot_Read, body := fun v => .need (Sp.readS.pre v.1) (.ret ⟨O_slot_Read, ((Sp.readS v.1).1, (Sp.readS v.1).2, ())⟩), ex := 0 }
def an_slot_Read : Ann := [(8, { slots := [(0, .ce (.v .str)), (2, .ce (.ptr 0 0)), (4, .ce (.v .str)), (6, .ce (.ptr 1 0)), (24, .ce (.v (.int .i64)))], ents := [.box 62 [.v (.int .i64), .v (.int .i64), .v (.int .i64), .v (.int .i64)], .abox 104 (.int .i64)] })]
def cx_slot_Read : Cx := mkCx [(56, [c_strings_CutPrefix]), (57, [c_quill_TakeNum]), (30, [c_slot_Block])]
theorem eq_slot_Read (b : Str) (R : ((p : Pat) × p.V) → Prop) : fnVc (cx_slot_Read) an_slot_Read 0 Try.f32 I_slot_Read [O_slot_Read] (b, ()) R = slot_Read.vc (fun y0 y1 => R ⟨O_slot_Read, (y0, y1, ())⟩) b := by kernel_rfl
theorem fs_slot_Read : CtrsOk Try.prog [(56, [c_strings_CutPrefix]), (57, [c_quill_TakeNum]), (30, [c_slot_Block])] := ⟨ctr1 (ctr_strings_CutPrefix), ctr1 (ctr_quill_TakeNum), ctr1 (ctr_slot_Block), trivial⟩
theorem vc_slot_Read (H : Nat → Entry) (v : c_slot_Read.inp.V) (r : (p : Pat) × p.V) (h : (c_slot_Read.body v).Sel H r) : fnVc (cx_slot_Read) an_slot_Read 0 Try.f32 c_slot_Read.inp [O_slot_Read] v (fun r' => r' = r) := by
  obtain ⟨b, ⟨⟩⟩ := v
  obtain ⟨h, rfl⟩ := h
  exact Eq.mpr (eq_slot_Read b _) (slot_Read.ok _ b h rfl)
theorem ctr_slot_Read : CtrOk Try.prog 32 c_slot_Read := ⟨⟨_, Try.func32, by kernel_rfl, by kernel_rfl⟩, fun H v r h => mk_ok _ (fs_slot_Read) (an := an_slot_Read) (outs := [O_slot_Read]) Try.func32 (by decide) (vc_slot_Read H v r h)⟩
abbrev I_slot_Choose : Pat := { slots := [(0, .ce (.ptr 0 0))], ents := [.box 93 [.os 1, .os 2, .v .bool, .v .bool, .v (.int .i64), .v .bool, .v (.sl (.int .i64))], .row 86 (.arr 4 .str), .row 98 (.pair (.int .i64) (.arr 4 .str))] }
abbrev O_slot_Choose : Pat := { slots := [(0, .ag (.pair (.int .i64) (.pair (.int .i64) (.pair (.int .i64) (.int .i64))))), (1, .ce (.v (.int .i64))), (2, .ce (.v (.int .i64)))], ents := [.box 93 [.os 1, .os 2, .v .bool, .v .bool, .v (.int .i64), .v .bool, .v (.sl (.int .i64))], .row 86 (.arr 4 .str), .row 98 (.pair (.int .i64) (.arr 4 .str))] }
def c_slot_Choose : Ctr := { k0 := 1, inp := I_slot_Choose, body := fun v => .need (Sp.dPre (v.1, v.2.1, v.2.2.1, v.2.2.2.1, v.2.2.2.2.1, v.2.2.2.2.2.1, v.2.2.2.2.2.2.1)) (.ret ⟨O_slot_Choose, ((Sp.chooseS (v.1, v.2.1, v.2.2.1, v.2.2.2.1, v.2.2.2.2.1, v.2.2.2.2.2.1, v.2.2.2.2.2.2.1)).1, (Sp.chooseS (v.1, v.2.1, v.2.2.1, v.2.2.2.1, v.2.2.2.2.1, v.2.2.2.2.2.1, v.2.2.2.2.2.2.1)).2.1, (Sp.chooseS (v.1, v.2.1, v.2.2.1, v.2.2.2.1, v.2.2.2.2.1, v.2.2.2.2.2.1, v.2.2.2.2.2.2.1)).2.2, v.1, v.2.1, v.2.2.1, v.2.2.2.1, v.2.2.2.2.1, v.2.2.2.2.2.1, v.2.2.2.2.2.2.1, ())⟩), ex := 0 }
def an_slot_Choose : Ann := [(3, { slots := [(0, .ce (.ptr 0 0)), (2, .ce (.ptr 3 0)), (5, .ce (.ptr 4 0)), (6, .ce (.v (.int .i64))), (13, .ce (.v (.int .i64)))], ents := [.box 93 [.os 1, .os 2, .v .bool, .v .bool, .v (.int .i64), .v .bool, .v (.sl (.int .i64))], .row 86 (.arr 4 .str), .row 98 (.pair (.int .i64) (.arr 4 .str)), .box 62 [.v (.int .i64), .v (.int .i64), .v (.int .i64), .v (.int .i64)], .box 62 [.v (.int .i64), .v (.int .i64), .v (.int .i64), .v (.int .i64)]] })]
def cx_slot_Choose : Cx := mkCx [(26, [c_disk_Disk_Read, c_disk_Read_nil]), (32, [c_slot_Read])]
theorem eq_slot_Choose (down : Bool) (armed : Bool) (after : Int) (acut : Bool) (keep : (List Int)) (bs : (List (List Str))) (ws : (List (Int × (List Str)))) (R : ((p : Pat) × p.V) → Prop) : fnVc (cx_slot_Choose) an_slot_Choose 1 Try.f35 I_slot_Choose [O_slot_Choose] (down, armed, after, acut, keep, bs, ws, ()) R = slot_Choose.vc (fun y0 y1 y2 y3 y4 y5 y6 y7 y8 y9 => R ⟨O_slot_Choose, (y0, y1, y2, y3, y4, y5, y6, y7, y8, y9, ())⟩) down armed after acut keep bs ws := by kernel_rfl
theorem fs_slot_Choose : CtrsOk Try.prog [(26, [c_disk_Disk_Read, c_disk_Read_nil]), (32, [c_slot_Read])] := ⟨(ctrC (ctr_disk_Disk_Read) (ctr1 (ctr_disk_Read_nil))), ctr1 (ctr_slot_Read), trivial⟩
theorem vc_slot_Choose (H : Nat → Entry) (v : c_slot_Choose.inp.V) (r : (p : Pat) × p.V) (h : (c_slot_Choose.body v).Sel H r) : fnVc (cx_slot_Choose) an_slot_Choose 1 Try.f35 c_slot_Choose.inp [O_slot_Choose] v (fun r' => r' = r) := by
  obtain ⟨down, armed, after, acut, keep, bs, ws, ⟨⟩⟩ := v
  obtain ⟨h, rfl⟩ := h
  exact Eq.mpr (eq_slot_Choose down armed after acut keep bs ws _) (slot_Choose.ok _ down armed after acut keep bs ws h rfl)
theorem ctr_slot_Choose : CtrOk Try.prog 35 c_slot_Choose := ⟨⟨_, Try.func35, by kernel_rfl, by kernel_rfl⟩, fun H v r h => mk_ok _ (fs_slot_Choose) (an := an_slot_Choose) (outs := [O_slot_Choose]) Try.func35 (by decide) (vc_slot_Choose H v r h)⟩
abbrev I_slot_Put : Pat := { slots := [(0, .ce (.ptr 0 0)), (1, .ag (.pair (.int .i64) (.pair (.int .i64) (.pair (.int .i64) (.int .i64)))))], ents := [.box 93 [.os 1, .os 2, .v .bool, .v .bool, .v (.int .i64), .v .bool, .v (.sl (.int .i64))], .row 86 (.arr 4 .str), .row 98 (.pair (.int .i64) (.arr 4 .str))] }
abbrev O_slot_Put : Pat := { slots := [(0, .ce (.v (.int .i64)))], ents := [.box 93 [.os 1, .os 2, .v .bool, .v .bool, .v (.int .i64), .v .bool, .v (.sl (.int .i64))], .row 86 (.arr 4 .str), .row 98 (.pair (.int .i64) (.arr 4 .str))] }
def c_slot_Put : Ctr := { k0 := 1, inp := I_slot_Put, body := fun v => .need (Sp.putS.pre v.1 (v.2.1, v.2.2.1, v.2.2.2.1, v.2.2.2.2.1, v.2.2.2.2.2.1, v.2.2.2.2.2.2.1, v.2.2.2.2.2.2.2.1)) (.ret ⟨O_slot_Put, ((Sp.putS v.1 (v.2.1, v.2.2.1, v.2.2.2.1, v.2.2.2.2.1, v.2.2.2.2.2.1, v.2.2.2.2.2.2.1, v.2.2.2.2.2.2.2.1)).2, (Sp.putS v.1 (v.2.1, v.2.2.1, v.2.2.2.1, v.2.2.2.2.1, v.2.2.2.2.2.1, v.2.2.2.2.2.2.1, v.2.2.2.2.2.2.2.1)).1.1, (Sp.putS v.1 (v.2.1, v.2.2.1, v.2.2.2.1, v.2.2.2.2.1, v.2.2.2.2.2.1, v.2.2.2.2.2.2.1, v.2.2.2.2.2.2.2.1)).1.2.1, (Sp.putS v.1 (v.2.1, v.2.2.1, v.2.2.2.1, v.2.2.2.2.1, v.2.2.2.2.2.1, v.2.2.2.2.2.2.1, v.2.2.2.2.2.2.2.1)).1.2.2.1, (Sp.putS v.1 (v.2.1, v.2.2.1, v.2.2.2.1, v.2.2.2.2.1, v.2.2.2.2.2.1, v.2.2.2.2.2.2.1, v.2.2.2.2.2.2.2.1)).1.2.2.2.1, (Sp.putS v.1 (v.2.1, v.2.2.1, v.2.2.2.1, v.2.2.2.2.1, v.2.2.2.2.2.1, v.2.2.2.2.2.2.1, v.2.2.2.2.2.2.2.1)).1.2.2.2.2.1, (Sp.putS v.1 (v.2.1, v.2.2.1, v.2.2.2.1, v.2.2.2.2.1, v.2.2.2.2.2.1, v.2.2.2.2.2.2.1, v.2.2.2.2.2.2.2.1)).1.2.2.2.2.2.1, (Sp.putS v.1 (v.2.1, v.2.2.1, v.2.2.2.1, v.2.2.2.2.1, v.2.2.2.2.2.1, v.2.2.2.2.2.2.1, v.2.2.2.2.2.2.2.1)).1.2.2.2.2.2.2, ())⟩), ex := 0 }
def an_slot_Put : Ann := []
def cx_slot_Put : Cx := mkCx [(35, [c_slot_Choose]), (30, [c_slot_Block]), (15, [c_disk_Disk_Write, c_disk_Write_nil]), (18, [c_disk_Disk_Flush, c_disk_Flush_nil])]
theorem eq_slot_Put (s : (Int × (Int × (Int × Int)))) (down : Bool) (armed : Bool) (after : Int) (acut : Bool) (keep : (List Int)) (bs : (List (List Str))) (ws : (List (Int × (List Str)))) (R : ((p : Pat) × p.V) → Prop) : fnVc (cx_slot_Put) an_slot_Put 1 Try.f39 I_slot_Put [O_slot_Put] (s, down, armed, after, acut, keep, bs, ws, ()) R = slot_Put.vc (fun y0 y1 y2 y3 y4 y5 y6 y7 => R ⟨O_slot_Put, (y0, y1, y2, y3, y4, y5, y6, y7, ())⟩) s down armed after acut keep bs ws := by kernel_rfl
theorem fs_slot_Put : CtrsOk Try.prog [(35, [c_slot_Choose]), (30, [c_slot_Block]), (15, [c_disk_Disk_Write, c_disk_Write_nil]), (18, [c_disk_Disk_Flush, c_disk_Flush_nil])] := ⟨ctr1 (ctr_slot_Choose), ctr1 (ctr_slot_Block), (ctrC (ctr_disk_Disk_Write) (ctr1 (ctr_disk_Write_nil))), (ctrC (ctr_disk_Disk_Flush) (ctr1 (ctr_disk_Flush_nil))), trivial⟩
theorem vc_slot_Put (H : Nat → Entry) (v : c_slot_Put.inp.V) (r : (p : Pat) × p.V) (h : (c_slot_Put.body v).Sel H r) : fnVc (cx_slot_Put) an_slot_Put 1 Try.f39 c_slot_Put.inp [O_slot_Put] v (fun r' => r' = r) := by
  obtain ⟨s, down, armed, after, acut, keep, bs, ws, ⟨⟩⟩ := v
  obtain ⟨h, rfl⟩ := h
  exact Eq.mpr (eq_slot_Put s down armed after acut keep bs ws _) (slot_Put.ok _ s down armed after acut keep bs ws h rfl)
theorem ctr_slot_Put : CtrOk Try.prog 39 c_slot_Put := ⟨⟨_, Try.func39, by kernel_rfl, by kernel_rfl⟩, fun H v r h => mk_ok _ (fs_slot_Put) (an := an_slot_Put) (outs := [O_slot_Put]) Try.func39 (by decide) (vc_slot_Put H v r h)⟩
abbrev I_slot_Format : Pat := { slots := [(0, .ce (.ptr 0 0))], ents := [.box 93 [.os 1, .os 2, .v .bool, .v .bool, .v (.int .i64), .v .bool, .v (.sl (.int .i64))], .row 86 (.arr 4 .str), .row 98 (.pair (.int .i64) (.arr 4 .str))] }
abbrev O_slot_Format : Pat := { slots := [(0, .ce (.v (.int .i64)))], ents := [.box 93 [.os 1, .os 2, .v .bool, .v .bool, .v (.int .i64), .v .bool, .v (.sl (.int .i64))], .row 86 (.arr 4 .str), .row 98 (.pair (.int .i64) (.arr 4 .str))] }
def c_slot_Format : Ctr := { k0 := 1, inp := I_slot_Format, body := fun v => .need (Sp.dPre9  (v.1, v.2.1, v.2.2.1, v.2.2.2.1, v.2.2.2.2.1, v.2.2.2.2.2.1, v.2.2.2.2.2.2.1)) (.ret ⟨O_slot_Format, ((Sp.formatS  (v.1, v.2.1, v.2.2.1, v.2.2.2.1, v.2.2.2.2.1, v.2.2.2.2.2.1, v.2.2.2.2.2.2.1)).2, (Sp.formatS  (v.1, v.2.1, v.2.2.1, v.2.2.2.1, v.2.2.2.2.1, v.2.2.2.2.2.1, v.2.2.2.2.2.2.1)).1.1, (Sp.formatS  (v.1, v.2.1, v.2.2.1, v.2.2.2.1, v.2.2.2.2.1, v.2.2.2.2.2.1, v.2.2.2.2.2.2.1)).1.2.1, (Sp.formatS  (v.1, v.2.1, v.2.2.1, v.2.2.2.1, v.2.2.2.2.1, v.2.2.2.2.2.1, v.2.2.2.2.2.2.1)).1.2.2.1, (Sp.formatS  (v.1, v.2.1, v.2.2.1, v.2.2.2.1, v.2.2.2.2.1, v.2.2.2.2.2.1, v.2.2.2.2.2.2.1)).1.2.2.2.1, (Sp.formatS  (v.1, v.2.1, v.2.2.1, v.2.2.2.1, v.2.2.2.2.1, v.2.2.2.2.2.1, v.2.2.2.2.2.2.1)).1.2.2.2.2.1, (Sp.formatS  (v.1, v.2.1, v.2.2.1, v.2.2.2.1, v.2.2.2.2.1, v.2.2.2.2.2.1, v.2.2.2.2.2.2.1)).1.2.2.2.2.2.1, (Sp.formatS  (v.1, v.2.1, v.2.2.1, v.2.2.2.1, v.2.2.2.2.1, v.2.2.2.2.2.1, v.2.2.2.2.2.2.1)).1.2.2.2.2.2.2, ())⟩), ex := 0 }
def an_slot_Format : Ann := [(3, { slots := [(0, .ce (.ptr 0 0)), (15, .ag (.arr 2 .str)), (16, .ce (.v (.int .i64)))], ents := [.box 93 [.os 1, .os 2, .v .bool, .v .bool, .v (.int .i64), .v .bool, .v (.sl (.int .i64))], .row 86 (.arr 4 .str), .row 98 (.pair (.int .i64) (.arr 4 .str))] })]
def cx_slot_Format : Cx := mkCx [(30, [c_slot_Block]), (55, [c_slot_padded]), (15, [c_disk_Disk_Write, c_disk_Write_nil]), (18, [c_disk_Disk_Flush, c_disk_Flush_nil])]
theorem eq_slot_Format (down : Bool) (armed : Bool) (after : Int) (acut : Bool) (keep : (List Int)) (bs : (List (List Str))) (ws : (List (Int × (List Str)))) (R : ((p : Pat) × p.V) → Prop) : fnVc (cx_slot_Format) an_slot_Format 1 Try.f38 I_slot_Format [O_slot_Format] (down, armed, after, acut, keep, bs, ws, ()) R = slot_Format.vc (fun y0 y1 y2 y3 y4 y5 y6 y7 => R ⟨O_slot_Format, (y0, y1, y2, y3, y4, y5, y6, y7, ())⟩) down armed after acut keep bs ws := by kernel_rfl
theorem fs_slot_Format : CtrsOk Try.prog [(30, [c_slot_Block]), (55, [c_slot_padded]), (15, [c_disk_Disk_Write, c_disk_Write_nil]), (18, [c_disk_Disk_Flush, c_disk_Flush_nil])] := ⟨ctr1 (ctr_slot_Block), ctr1 (ctr_slot_padded), (ctrC (ctr_disk_Disk_Write) (ctr1 (ctr_disk_Write_nil))), (ctrC (ctr_disk_Disk_Flush) (ctr1 (ctr_disk_Flush_nil))), trivial⟩
theorem vc_slot_Format (H : Nat → Entry) (v : c_slot_Format.inp.V) (r : (p : Pat) × p.V) (h : (c_slot_Format.body v).Sel H r) : fnVc (cx_slot_Format) an_slot_Format 1 Try.f38 c_slot_Format.inp [O_slot_Format] v (fun r' => r' = r) := by
  obtain ⟨down, armed, after, acut, keep, bs, ws, ⟨⟩⟩ := v
  obtain ⟨h, rfl⟩ := h
  exact Eq.mpr (eq_slot_Format down armed after acut keep bs ws _) (slot_Format.ok _ down armed after acut keep bs ws h rfl)
theorem ctr_slot_Format : CtrOk Try.prog 38 c_slot_Format := ⟨⟨_, Try.func38, by kernel_rfl, by kernel_rfl⟩, fun H v r h => mk_ok _ (fs_slot_Format) (an := an_slot_Format) (outs := [O_slot_Format]) Try.func38 (by decide) (vc_slot_Format H v r h)⟩
abbrev I_rectoref28_Right : Pat := { slots := [(0, .ag (.pair (.int .i64) (.pair (.int .i64) (.pair (.int .i64) (.int .i64)))))], ents := [] }
abbrev O_rectoref28_Right : Pat := { slots := [(0, .ce (.v .bool))], ents := [] }
def c_rectoref28_Right : Ctr := { k0 := 0, inp := I_rectoref28_Right, body := fun v => .ret ⟨O_rectoref28_Right, ((Sp.rightS v.1), ())⟩, ex := 0 }
def an_rectoref28_Right : Ann := []
def cx_rectoref28_Right : Cx := mkCx []
theorem eq_rectoref28_Right (s : (Int × (Int × (Int × Int)))) (R : ((p : Pat) × p.V) → Prop) : fnVc (cx_rectoref28_Right) an_rectoref28_Right 0 Try.f73 I_rectoref28_Right [O_rectoref28_Right] (s, ()) R = rectoref28_Right.vc (fun y0 => R ⟨O_rectoref28_Right, (y0, ())⟩) s := by kernel_rfl
theorem fs_rectoref28_Right : CtrsOk Try.prog [] := trivial
theorem vc_rectoref28_Right (H : Nat → Entry) (v : c_rectoref28_Right.inp.V) (r : (p : Pat) × p.V) (h : (c_rectoref28_Right.body v).Sel H r) : fnVc (cx_rectoref28_Right) an_rectoref28_Right 0 Try.f73 c_rectoref28_Right.inp [O_rectoref28_Right] v (fun r' => r' = r) := by
  obtain ⟨s, ⟨⟩⟩ := v
  obtain rfl := h
  exact Eq.mpr (eq_rectoref28_Right s _) (rectoref28_Right.ok _ s  rfl)
theorem ctr_rectoref28_Right : CtrOk Try.prog 73 c_rectoref28_Right := ⟨⟨_, Try.func73, by kernel_rfl, by kernel_rfl⟩, fun H v r h => mk_ok _ (fs_rectoref28_Right) (an := an_rectoref28_Right) (outs := [O_rectoref28_Right]) Try.func73 (by decide) (vc_rectoref28_Right H v r h)⟩
abbrev I_rectoref28_Plain : Pat := { slots := [(0, .ag (.pair (.int .i64) (.pair (.int .i64) (.pair (.int .i64) (.int .i64)))))], ents := [] }
abbrev O_rectoref28_Plain : Pat := { slots := [(0, .ce (.v .str))], ents := [] }
def c_rectoref28_Plain : Ctr := { k0 := 0, inp := I_rectoref28_Plain, body := fun v => .need (Sp.plainS.pre v.1) (.ret ⟨O_rectoref28_Plain, ((Sp.plainS v.1), ())⟩), ex := 0 }
def an_rectoref28_Plain : Ann := [(2, { slots := [(3, .ce (.v .str))], ents := [] })]
def cx_rectoref28_Plain : Cx := mkCx [(81, [c_rectoref01_Plain])]
theorem eq_rectoref28_Plain (s : (Int × (Int × (Int × Int)))) (R : ((p : Pat) × p.V) → Prop) : fnVc (cx_rectoref28_Plain) an_rectoref28_Plain 0 Try.f74 I_rectoref28_Plain [O_rectoref28_Plain] (s, ()) R = rectoref28_Plain.vc (fun y0 => R ⟨O_rectoref28_Plain, (y0, ())⟩) s := by kernel_rfl
theorem fs_rectoref28_Plain : CtrsOk Try.prog [(81, [c_rectoref01_Plain])] := ⟨ctr1 (ctr_rectoref01_Plain), trivial⟩
theorem vc_rectoref28_Plain (H : Nat → Entry) (v : c_rectoref28_Plain.inp.V) (r : (p : Pat) × p.V) (h : (c_rectoref28_Plain.body v).Sel H r) : fnVc (cx_rectoref28_Plain) an_rectoref28_Plain 0 Try.f74 c_rectoref28_Plain.inp [O_rectoref28_Plain] v (fun r' => r' = r) := by
  obtain ⟨s, ⟨⟩⟩ := v
  obtain ⟨h, rfl⟩ := h
  exact Eq.mpr (eq_rectoref28_Plain s _) (rectoref28_Plain.ok _ s h rfl)
theorem ctr_rectoref28_Plain : CtrOk Try.prog 74 c_rectoref28_Plain := ⟨⟨_, Try.func74, by kernel_rfl, by kernel_rfl⟩, fun H v r h => mk_ok _ (fs_rectoref28_Plain) (an := an_rectoref28_Plain) (outs := [O_rectoref28_Plain]) Try.func74 (by decide) (vc_rectoref28_Plain H v r h)⟩
abbrev I_rectoref28_Read : Pat := { slots := [(0, .ce (.v .str))], ents := [] }
abbrev O_rectoref28_Read : Pat := { slots := [(0, .ag (.pair (.pair (.int .i64) (.pair (.int .i64) (.pair (.int .i64) (.int .i64)))) .bool))], ents := [] }
def c_rectoref28_Read : Ctr := { k0 := 0, inp := I_rectoref28_Read, body := fun v => .need (Sp.readS.pre v.1) (.ret ⟨O_rectoref28_Read, ((Sp.readS v.1), ())⟩), ex := 0 }
def an_rectoref28_Read : Ann := []
def cx_rectoref28_Read : Cx := mkCx [(75, [c_rectoref01_TakeNum]), (73, [c_rectoref28_Right]), (74, [c_rectoref28_Plain])]
theorem eq_rectoref28_Read (b : Str) (R : ((p : Pat) × p.V) → Prop) : fnVc (cx_rectoref28_Read) an_rectoref28_Read 0 Try.f61 I_rectoref28_Read [O_rectoref28_Read] (b, ()) R = rectoref28_Read.vc (fun y0 => R ⟨O_rectoref28_Read, (y0, ())⟩) b := by kernel_rfl
theorem fs_rectoref28_Read : CtrsOk Try.prog [(75, [c_rectoref01_TakeNum]), (73, [c_rectoref28_Right]), (74, [c_rectoref28_Plain])] := ⟨ctr1 (ctr_rectoref01_TakeNum), ctr1 (ctr_rectoref28_Right), ctr1 (ctr_rectoref28_Plain), trivial⟩
theorem vc_rectoref28_Read (H : Nat → Entry) (v : c_rectoref28_Read.inp.V) (r : (p : Pat) × p.V) (h : (c_rectoref28_Read.body v).Sel H r) : fnVc (cx_rectoref28_Read) an_rectoref28_Read 0 Try.f61 c_rectoref28_Read.inp [O_rectoref28_Read] v (fun r' => r' = r) := by
  obtain ⟨b, ⟨⟩⟩ := v
  obtain ⟨h, rfl⟩ := h
  exact Eq.mpr (eq_rectoref28_Read b _) (rectoref28_Read.ok _ b h rfl)
theorem ctr_rectoref28_Read : CtrOk Try.prog 61 c_rectoref28_Read := ⟨⟨_, Try.func61, by kernel_rfl, by kernel_rfl⟩, fun H v r h => mk_ok _ (fs_rectoref28_Read) (an := an_rectoref28_Read) (outs := [O_rectoref28_Read]) Try.func61 (by decide) (vc_rectoref28_Read H v r h)⟩
abbrev I_rectoref28_Choose : Pat := { slots := [(0, .ce (.ptr 0 0))], ents := [.box 44 [.os 1, .os 2, .v .bool, .v .bool, .v (.int .i64), .v .bool, .v (.sl (.int .i64))], .row 9 .str, .row 48 (.pair (.int .i64) .str)] }
abbrev O_rectoref28_Choose : Pat := { slots := [(0, .ag (.pair (.pair (.int .i64) (.pair (.int .i64) (.pair (.int .i64) (.int .i64)))) (.pair (.int .i64) (.int .i64))))], ents := [.box 44 [.os 1, .os 2, .v .bool, .v .bool, .v (.int .i64), .v .bool, .v (.sl (.int .i64))], .row 9 .str, .row 48 (.pair (.int .i64) .str)] }
def c_rectoref28_Choose : Ctr := { k0 := 1, inp := I_rectoref28_Choose, body := fun v => .need (Sp.rPre (v.1, v.2.1, v.2.2.1, v.2.2.2.1, v.2.2.2.2.1, v.2.2.2.2.2.1, v.2.2.2.2.2.2.1)) (.ret ⟨O_rectoref28_Choose, ((Sp.rChoose (v.1, v.2.1, v.2.2.1, v.2.2.2.1, v.2.2.2.2.1, v.2.2.2.2.2.1, v.2.2.2.2.2.2.1)), v.1, v.2.1, v.2.2.1, v.2.2.2.1, v.2.2.2.2.1, v.2.2.2.2.2.1, v.2.2.2.2.2.2.1, ())⟩), ex := 0 }
def an_rectoref28_Choose : Ann := []
def cx_rectoref28_Choose : Cx := mkCx [(27, [c_rectoref27_Disk_Read]), (61, [c_rectoref28_Read])]
theorem eq_rectoref28_Choose (rdown : Bool) (rarmed : Bool) (rafter : Int) (racut : Bool) (rkeep : (List Int)) (rbs : (List Str)) (rws : (List (Int × Str))) (R : ((p : Pat) × p.V) → Prop) : fnVc (cx_rectoref28_Choose) an_rectoref28_Choose 1 Try.f36 I_rectoref28_Choose [O_rectoref28_Choose] (rdown, rarmed, rafter, racut, rkeep, rbs, rws, ()) R = rectoref28_Choose.vc (fun y0 y1 y2 y3 y4 y5 y6 y7 => R ⟨O_rectoref28_Choose, (y0, y1, y2, y3, y4, y5, y6, y7, ())⟩) rdown rarmed rafter racut rkeep rbs rws := by kernel_rfl
theorem fs_rectoref28_Choose : CtrsOk Try.prog [(27, [c_rectoref27_Disk_Read]), (61, [c_rectoref28_Read])] := ⟨ctr1 (ctr_rectoref27_Disk_Read), ctr1 (ctr_rectoref28_Read), trivial⟩
theorem vc_rectoref28_Choose (H : Nat → Entry) (v : c_rectoref28_Choose.inp.V) (r : (p : Pat) × p.V) (h : (c_rectoref28_Choose.body v).Sel H r) : fnVc (cx_rectoref28_Choose) an_rectoref28_Choose 1 Try.f36 c_rectoref28_Choose.inp [O_rectoref28_Choose] v (fun r' => r' = r) := by
  obtain ⟨rdown, rarmed, rafter, racut, rkeep, rbs, rws, ⟨⟩⟩ := v
  obtain ⟨h, rfl⟩ := h
  exact Eq.mpr (eq_rectoref28_Choose rdown rarmed rafter racut rkeep rbs rws _) (rectoref28_Choose.ok _ rdown rarmed rafter racut rkeep rbs rws h rfl)
theorem ctr_rectoref28_Choose : CtrOk Try.prog 36 c_rectoref28_Choose := ⟨⟨_, Try.func36, by kernel_rfl, by kernel_rfl⟩, fun H v r h => mk_ok _ (fs_rectoref28_Choose) (an := an_rectoref28_Choose) (outs := [O_rectoref28_Choose]) Try.func36 (by decide) (vc_rectoref28_Choose H v r h)⟩
abbrev I_rectoref28_Put : Pat := { slots := [(0, .ce (.ptr 0 0)), (1, .ag (.pair (.int .i64) (.pair (.int .i64) (.pair (.int .i64) (.int .i64)))))], ents := [.box 44 [.os 1, .os 2, .v .bool, .v .bool, .v (.int .i64), .v .bool, .v (.sl (.int .i64))], .row 9 .str, .row 48 (.pair (.int .i64) .str)] }
abbrev O_rectoref28_Put : Pat := { slots := [(0, .ce (.v (.int .i64)))], ents := [.box 44 [.os 1, .os 2, .v .bool, .v .bool, .v (.int .i64), .v .bool, .v (.sl (.int .i64))], .row 9 .str, .row 48 (.pair (.int .i64) .str)] }
def c_rectoref28_Put : Ctr := { k0 := 1, inp := I_rectoref28_Put, body := fun v => .need (Sp.rPut.pre v.1 (v.2.1, v.2.2.1, v.2.2.2.1, v.2.2.2.2.1, v.2.2.2.2.2.1, v.2.2.2.2.2.2.1, v.2.2.2.2.2.2.2.1)) (.ret ⟨O_rectoref28_Put, ((Sp.rPut v.1 (v.2.1, v.2.2.1, v.2.2.2.1, v.2.2.2.2.1, v.2.2.2.2.2.1, v.2.2.2.2.2.2.1, v.2.2.2.2.2.2.2.1)).2, (Sp.rPut v.1 (v.2.1, v.2.2.1, v.2.2.2.1, v.2.2.2.2.1, v.2.2.2.2.2.1, v.2.2.2.2.2.2.1, v.2.2.2.2.2.2.2.1)).1.1, (Sp.rPut v.1 (v.2.1, v.2.2.1, v.2.2.2.1, v.2.2.2.2.1, v.2.2.2.2.2.1, v.2.2.2.2.2.2.1, v.2.2.2.2.2.2.2.1)).1.2.1, (Sp.rPut v.1 (v.2.1, v.2.2.1, v.2.2.2.1, v.2.2.2.2.1, v.2.2.2.2.2.1, v.2.2.2.2.2.2.1, v.2.2.2.2.2.2.2.1)).1.2.2.1, (Sp.rPut v.1 (v.2.1, v.2.2.1, v.2.2.2.1, v.2.2.2.2.1, v.2.2.2.2.2.1, v.2.2.2.2.2.2.1, v.2.2.2.2.2.2.2.1)).1.2.2.2.1, (Sp.rPut v.1 (v.2.1, v.2.2.1, v.2.2.2.1, v.2.2.2.2.1, v.2.2.2.2.2.1, v.2.2.2.2.2.2.1, v.2.2.2.2.2.2.2.1)).1.2.2.2.2.1, (Sp.rPut v.1 (v.2.1, v.2.2.1, v.2.2.2.1, v.2.2.2.2.1, v.2.2.2.2.2.1, v.2.2.2.2.2.2.1, v.2.2.2.2.2.2.2.1)).1.2.2.2.2.2.1, (Sp.rPut v.1 (v.2.1, v.2.2.1, v.2.2.2.1, v.2.2.2.2.1, v.2.2.2.2.2.1, v.2.2.2.2.2.2.1, v.2.2.2.2.2.2.2.1)).1.2.2.2.2.2.2, ())⟩), ex := 0 }
def an_rectoref28_Put : Ann := []
def cx_rectoref28_Put : Cx := mkCx [(36, [c_rectoref28_Choose]), (73, [c_rectoref28_Right]), (74, [c_rectoref28_Plain]), (17, [c_rectoref27_Disk_Write]), (19, [c_rectoref27_Disk_Flush])]
theorem eq_rectoref28_Put (s : (Int × (Int × (Int × Int)))) (rdown : Bool) (rarmed : Bool) (rafter : Int) (racut : Bool) (rkeep : (List Int)) (rbs : (List Str)) (rws : (List (Int × Str))) (R : ((p : Pat) × p.V) → Prop) : fnVc (cx_rectoref28_Put) an_rectoref28_Put 1 Try.f58 I_rectoref28_Put [O_rectoref28_Put] (s, rdown, rarmed, rafter, racut, rkeep, rbs, rws, ()) R = rectoref28_Put.vc (fun y0 y1 y2 y3 y4 y5 y6 y7 => R ⟨O_rectoref28_Put, (y0, y1, y2, y3, y4, y5, y6, y7, ())⟩) s rdown rarmed rafter racut rkeep rbs rws := by kernel_rfl
theorem fs_rectoref28_Put : CtrsOk Try.prog [(36, [c_rectoref28_Choose]), (73, [c_rectoref28_Right]), (74, [c_rectoref28_Plain]), (17, [c_rectoref27_Disk_Write]), (19, [c_rectoref27_Disk_Flush])] := ⟨ctr1 (ctr_rectoref28_Choose), ctr1 (ctr_rectoref28_Right), ctr1 (ctr_rectoref28_Plain), ctr1 (ctr_rectoref27_Disk_Write), ctr1 (ctr_rectoref27_Disk_Flush), trivial⟩
theorem vc_rectoref28_Put (H : Nat → Entry) (v : c_rectoref28_Put.inp.V) (r : (p : Pat) × p.V) (h : (c_rectoref28_Put.body v).Sel H r) : fnVc (cx_rectoref28_Put) an_rectoref28_Put 1 Try.f58 c_rectoref28_Put.inp [O_rectoref28_Put] v (fun r' => r' = r) := by
  obtain ⟨s, rdown, rarmed, rafter, racut, rkeep, rbs, rws, ⟨⟩⟩ := v
  obtain ⟨h, rfl⟩ := h
  exact Eq.mpr (eq_rectoref28_Put s rdown rarmed rafter racut rkeep rbs rws _) (rectoref28_Put.ok _ s rdown rarmed rafter racut rkeep rbs rws h rfl)
theorem ctr_rectoref28_Put : CtrOk Try.prog 58 c_rectoref28_Put := ⟨⟨_, Try.func58, by kernel_rfl, by kernel_rfl⟩, fun H v r h => mk_ok _ (fs_rectoref28_Put) (an := an_rectoref28_Put) (outs := [O_rectoref28_Put]) Try.func58 (by decide) (vc_rectoref28_Put H v r h)⟩
abbrev I_rectoref28_Format : Pat := { slots := [(0, .ce (.ptr 0 0))], ents := [.box 44 [.os 1, .os 2, .v .bool, .v .bool, .v (.int .i64), .v .bool, .v (.sl (.int .i64))], .row 9 .str, .row 48 (.pair (.int .i64) .str)] }
abbrev O_rectoref28_Format : Pat := { slots := [(0, .ce (.v (.int .i64)))], ents := [.box 44 [.os 1, .os 2, .v .bool, .v .bool, .v (.int .i64), .v .bool, .v (.sl (.int .i64))], .row 9 .str, .row 48 (.pair (.int .i64) .str)] }
def c_rectoref28_Format : Ctr := { k0 := 1, inp := I_rectoref28_Format, body := fun v => .need (Sp.rPre9  (v.1, v.2.1, v.2.2.1, v.2.2.2.1, v.2.2.2.2.1, v.2.2.2.2.2.1, v.2.2.2.2.2.2.1)) (.ret ⟨O_rectoref28_Format, ((Sp.rFormat  (v.1, v.2.1, v.2.2.1, v.2.2.2.1, v.2.2.2.2.1, v.2.2.2.2.2.1, v.2.2.2.2.2.2.1)).2, (Sp.rFormat  (v.1, v.2.1, v.2.2.1, v.2.2.2.1, v.2.2.2.2.1, v.2.2.2.2.2.1, v.2.2.2.2.2.2.1)).1.1, (Sp.rFormat  (v.1, v.2.1, v.2.2.1, v.2.2.2.1, v.2.2.2.2.1, v.2.2.2.2.2.1, v.2.2.2.2.2.2.1)).1.2.1, (Sp.rFormat  (v.1, v.2.1, v.2.2.1, v.2.2.2.1, v.2.2.2.2.1, v.2.2.2.2.2.1, v.2.2.2.2.2.2.1)).1.2.2.1, (Sp.rFormat  (v.1, v.2.1, v.2.2.1, v.2.2.2.1, v.2.2.2.2.1, v.2.2.2.2.2.1, v.2.2.2.2.2.2.1)).1.2.2.2.1, (Sp.rFormat  (v.1, v.2.1, v.2.2.1, v.2.2.2.1, v.2.2.2.2.1, v.2.2.2.2.2.1, v.2.2.2.2.2.2.1)).1.2.2.2.2.1, (Sp.rFormat  (v.1, v.2.1, v.2.2.1, v.2.2.2.1, v.2.2.2.2.1, v.2.2.2.2.2.1, v.2.2.2.2.2.2.1)).1.2.2.2.2.2.1, (Sp.rFormat  (v.1, v.2.1, v.2.2.1, v.2.2.2.1, v.2.2.2.2.1, v.2.2.2.2.2.1, v.2.2.2.2.2.2.1)).1.2.2.2.2.2.2, ())⟩), ex := 0 }
def an_rectoref28_Format : Ann := [(5, { slots := [(0, .ce (.ptr 0 0)), (4, .ce (.v .str))], ents := [.box 44 [.os 1, .os 2, .v .bool, .v .bool, .v (.int .i64), .v .bool, .v (.sl (.int .i64))], .row 9 .str, .row 48 (.pair (.int .i64) .str)] })]
def cx_rectoref28_Format : Cx := mkCx [(74, [c_rectoref28_Plain]), (17, [c_rectoref27_Disk_Write]), (19, [c_rectoref27_Disk_Flush])]
theorem eq_rectoref28_Format (rdown : Bool) (rarmed : Bool) (rafter : Int) (racut : Bool) (rkeep : (List Int)) (rbs : (List Str)) (rws : (List (Int × Str))) (R : ((p : Pat) × p.V) → Prop) : fnVc (cx_rectoref28_Format) an_rectoref28_Format 1 Try.f59 I_rectoref28_Format [O_rectoref28_Format] (rdown, rarmed, rafter, racut, rkeep, rbs, rws, ()) R = rectoref28_Format.vc (fun y0 y1 y2 y3 y4 y5 y6 y7 => R ⟨O_rectoref28_Format, (y0, y1, y2, y3, y4, y5, y6, y7, ())⟩) rdown rarmed rafter racut rkeep rbs rws := by kernel_rfl
theorem fs_rectoref28_Format : CtrsOk Try.prog [(74, [c_rectoref28_Plain]), (17, [c_rectoref27_Disk_Write]), (19, [c_rectoref27_Disk_Flush])] := ⟨ctr1 (ctr_rectoref28_Plain), ctr1 (ctr_rectoref27_Disk_Write), ctr1 (ctr_rectoref27_Disk_Flush), trivial⟩
theorem vc_rectoref28_Format (H : Nat → Entry) (v : c_rectoref28_Format.inp.V) (r : (p : Pat) × p.V) (h : (c_rectoref28_Format.body v).Sel H r) : fnVc (cx_rectoref28_Format) an_rectoref28_Format 1 Try.f59 c_rectoref28_Format.inp [O_rectoref28_Format] v (fun r' => r' = r) := by
  obtain ⟨rdown, rarmed, rafter, racut, rkeep, rbs, rws, ⟨⟩⟩ := v
  obtain ⟨h, rfl⟩ := h
  exact Eq.mpr (eq_rectoref28_Format rdown rarmed rafter racut rkeep rbs rws _) (rectoref28_Format.ok _ rdown rarmed rafter racut rkeep rbs rws h rfl)
theorem ctr_rectoref28_Format : CtrOk Try.prog 59 c_rectoref28_Format := ⟨⟨_, Try.func59, by kernel_rfl, by kernel_rfl⟩, fun H v r h => mk_ok _ (fs_rectoref28_Format) (an := an_rectoref28_Format) (outs := [O_rectoref28_Format]) Try.func59 (by decide) (vc_rectoref28_Format H v r h)⟩
abbrev I_rectolaw28_fill : Pat := { slots := [(0, .ce (.v (.int .u8)))], ents := [] }
abbrev O_rectolaw28_fill : Pat := { slots := [(0, .ce (.v .str))], ents := [] }
def c_rectolaw28_fill : Ctr := { k0 := 0, inp := I_rectolaw28_fill, body := fun v => .need (Sp.fillB.pre v.1) (.ret ⟨O_rectolaw28_fill, ((Sp.fillB v.1), ())⟩), ex := 0 }
def an_rectolaw28_fill : Ann := [(3, { slots := [(0, .ce (.v (.int .u8))), (3, .ce (.os 0)), (7, .ce (.v (.int .i64))), (8, .ce (.v (.int .i64)))], ents := [.row 5 (.int .u8)] })]
def cx_rectolaw28_fill : Cx := mkCx []
theorem eq_rectolaw28_fill (b : Int) (R : ((p : Pat) × p.V) → Prop) : fnVc (cx_rectolaw28_fill) an_rectolaw28_fill 0 Try.f60 I_rectolaw28_fill [O_rectolaw28_fill] (b, ()) R = rectolaw28_fill.vc (fun y0 => R ⟨O_rectolaw28_fill, (y0, ())⟩) b := by kernel_rfl
theorem fs_rectolaw28_fill : CtrsOk Try.prog [] := trivial
theorem vc_rectolaw28_fill (H : Nat → Entry) (v : c_rectolaw28_fill.inp.V) (r : (p : Pat) × p.V) (h : (c_rectolaw28_fill.body v).Sel H r) : fnVc (cx_rectolaw28_fill) an_rectolaw28_fill 0 Try.f60 c_rectolaw28_fill.inp [O_rectolaw28_fill] v (fun r' => r' = r) := by
  obtain ⟨b, ⟨⟩⟩ := v
  obtain ⟨h, rfl⟩ := h
  exact Eq.mpr (eq_rectolaw28_fill b _) (rectolaw28_fill.ok _ b h rfl)
theorem ctr_rectolaw28_fill : CtrOk Try.prog 60 c_rectolaw28_fill := ⟨⟨_, Try.func60, by kernel_rfl, by kernel_rfl⟩, fun H v r h => mk_ok _ (fs_rectolaw28_fill) (an := an_rectolaw28_fill) (outs := [O_rectolaw28_fill]) Try.func60 (by decide) (vc_rectolaw28_fill H v r h)⟩
abbrev I_rectolaw28_ref : Pat := { slots := [(0, .ag (.pair (.int .i64) (.pair (.int .i64) (.pair (.int .i64) (.int .i64)))))], ents := [] }
abbrev O_rectolaw28_ref : Pat := { slots := [(0, .ag (.pair (.int .i64) (.pair (.int .i64) (.pair (.int .i64) (.int .i64)))))], ents := [] }
def c_rectolaw28_ref : Ctr := { k0 := 0, inp := I_rectolaw28_ref, body := fun v => .ret ⟨O_rectolaw28_ref, ((Sp.refS v.1), ())⟩, ex := 0 }
def an_rectolaw28_ref : Ann := []
def cx_rectolaw28_ref : Cx := mkCx []
theorem eq_rectolaw28_ref (s : (Int × (Int × (Int × Int)))) (R : ((p : Pat) × p.V) → Prop) : fnVc (cx_rectolaw28_ref) an_rectolaw28_ref 0 Try.f37 I_rectolaw28_ref [O_rectolaw28_ref] (s, ()) R = rectolaw28_ref.vc (fun y0 => R ⟨O_rectolaw28_ref, (y0, ())⟩) s := by kernel_rfl
theorem fs_rectolaw28_ref : CtrsOk Try.prog [] := trivial
theorem vc_rectolaw28_ref (H : Nat → Entry) (v : c_rectolaw28_ref.inp.V) (r : (p : Pat) × p.V) (h : (c_rectolaw28_ref.body v).Sel H r) : fnVc (cx_rectolaw28_ref) an_rectolaw28_ref 0 Try.f37 c_rectolaw28_ref.inp [O_rectolaw28_ref] v (fun r' => r' = r) := by
  obtain ⟨s, ⟨⟩⟩ := v
  obtain rfl := h
  exact Eq.mpr (eq_rectolaw28_ref s _) (rectolaw28_ref.ok _ s  rfl)
theorem ctr_rectolaw28_ref : CtrOk Try.prog 37 c_rectolaw28_ref := ⟨⟨_, Try.func37, by kernel_rfl, by kernel_rfl⟩, fun H v r h => mk_ok _ (fs_rectolaw28_ref) (an := an_rectolaw28_ref) (outs := [O_rectolaw28_ref]) Try.func37 (by decide) (vc_rectolaw28_ref H v r h)⟩
abbrev I_rectolaw28_two : Pat := { slots := [], ents := [] }
abbrev O_rectolaw28_two : Pat := { slots := [(0, .ce (.v .bool))], ents := [] }
def c_rectolaw28_two : Ctr := { k0 := 0, inp := I_rectolaw28_two, body := fun v => .ret ⟨O_rectolaw28_two, ((Sp.tt), ())⟩, ex := 0 }
def an_rectolaw28_two : Ann := []
def cx_rectolaw28_two : Cx := mkCx [(11, [c_disk_New]), (38, [c_slot_Format]), (39, [c_slot_Put]), (35, [c_slot_Choose])]
theorem eq_rectolaw28_two  (R : ((p : Pat) × p.V) → Prop) : fnVc (cx_rectolaw28_two) an_rectolaw28_two 0 Try.f31 I_rectolaw28_two [O_rectolaw28_two] (()) R = rectolaw28_two.vc (fun y0 => R ⟨O_rectolaw28_two, (y0, ())⟩)  := by kernel_rfl
theorem fs_rectolaw28_two : CtrsOk Try.prog [(11, [c_disk_New]), (38, [c_slot_Format]), (39, [c_slot_Put]), (35, [c_slot_Choose])] := ⟨ctr1 (ctr_disk_New), ctr1 (ctr_slot_Format), ctr1 (ctr_slot_Put), ctr1 (ctr_slot_Choose), trivial⟩
theorem vc_rectolaw28_two (H : Nat → Entry) (v : c_rectolaw28_two.inp.V) (r : (p : Pat) × p.V) (h : (c_rectolaw28_two.body v).Sel H r) : fnVc (cx_rectolaw28_two) an_rectolaw28_two 0 Try.f31 c_rectolaw28_two.inp [O_rectolaw28_two] v (fun r' => r' = r) := by
  obtain ⟨⟩ := v
  obtain rfl := h
  exact Eq.mpr (eq_rectolaw28_two  _) (rectolaw28_two.ok _   rfl)
theorem ctr_rectolaw28_two : CtrOk Try.prog 31 c_rectolaw28_two := ⟨⟨_, Try.func31, by kernel_rfl, by kernel_rfl⟩, fun H v r h => mk_ok _ (fs_rectolaw28_two) (an := an_rectolaw28_two) (outs := [O_rectolaw28_two]) Try.func31 (by decide) (vc_rectolaw28_two H v r h)⟩
abbrev I_rectolaw28_long : Pat := { slots := [(0, .ce (.v (.sl (.pair (.int .i64) (.pair (.int .i64) (.pair (.pair (.int .i64) (.pair (.int .i64) (.pair (.int .i64) (.int .i64)))) (.pair (.int .u8) (.pair .bool (.sl (.int .i64))))))))))], ents := [] }
abbrev O_rectolaw28_long : Pat := { slots := [(0, .ce (.v .bool))], ents := [] }
def c_rectolaw28_long : Ctr := { k0 := 0, inp := I_rectolaw28_long, body := fun v => .need (Sp.longS8.pre v.1) (.ret ⟨O_rectolaw28_long, ((Sp.longS8 v.1), ())⟩), ex := 0 }
def an_rectolaw28_long : Ann := [(2, { slots := [(5, .ce (.v (.sl (.pair (.int .i64) (.pair (.int .i64) (.pair (.pair (.int .i64) (.pair (.int .i64) (.pair (.int .i64) (.int .i64)))) (.pair (.int .u8) (.pair .bool (.sl (.int .i64)))))))))), (6, .ce (.v (.int .i64))), (7, .ce (.v (.int .i64)))], ents := [] })]
def cx_rectolaw28_long : Cx := mkCx []
theorem eq_rectolaw28_long (l : (List (Int × (Int × ((Int × (Int × (Int × Int))) × (Int × (Bool × (List Int)))))))) (R : ((p : Pat) × p.V) → Prop) : fnVc (cx_rectolaw28_long) an_rectolaw28_long 0 Try.f33 I_rectolaw28_long [O_rectolaw28_long] (l, ()) R = rectolaw28_long.vc (fun y0 => R ⟨O_rectolaw28_long, (y0, ())⟩) l := by kernel_rfl
theorem fs_rectolaw28_long : CtrsOk Try.prog [] := trivial
theorem vc_rectolaw28_long (H : Nat → Entry) (v : c_rectolaw28_long.inp.V) (r : (p : Pat) × p.V) (h : (c_rectolaw28_long.body v).Sel H r) : fnVc (cx_rectolaw28_long) an_rectolaw28_long 0 Try.f33 c_rectolaw28_long.inp [O_rectolaw28_long] v (fun r' => r' = r) := by
  obtain ⟨l, ⟨⟩⟩ := v
  obtain ⟨h, rfl⟩ := h
  exact Eq.mpr (eq_rectolaw28_long l _) (rectolaw28_long.ok _ l h rfl)
theorem ctr_rectolaw28_long : CtrOk Try.prog 33 c_rectolaw28_long := ⟨⟨_, Try.func33, by kernel_rfl, by kernel_rfl⟩, fun H v r h => mk_ok _ (fs_rectolaw28_long) (an := an_rectolaw28_long) (outs := [O_rectolaw28_long]) Try.func33 (by decide) (vc_rectolaw28_long H v r h)⟩
abbrev I_rectolaw28_does : Pat := { slots := [(0, .ce (.ptr 0 0)), (1, .ce (.ptr 1 0)), (2, .ag (.pair (.int .i64) (.pair (.int .i64) (.pair (.pair (.int .i64) (.pair (.int .i64) (.pair (.int .i64) (.int .i64)))) (.pair (.int .u8) (.pair .bool (.sl (.int .i64))))))))], ents := [.box 93 [.os 2, .os 3, .v .bool, .v .bool, .v (.int .i64), .v .bool, .v (.sl (.int .i64))], .box 44 [.os 4, .os 5, .v .bool, .v .bool, .v (.int .i64), .v .bool, .v (.sl (.int .i64))], .row 86 (.arr 4 .str), .row 98 (.pair (.int .i64) (.arr 4 .str)), .row 9 .str, .row 48 (.pair (.int .i64) .str)] }
abbrev O_rectolaw28_does : Pat := { slots := [(0, .ce (.v .bool))], ents := [.box 93 [.os 2, .os 3, .v .bool, .v .bool, .v (.int .i64), .v .bool, .v (.sl (.int .i64))], .box 44 [.os 4, .os 5, .v .bool, .v .bool, .v (.int .i64), .v .bool, .v (.sl (.int .i64))], .row 86 (.arr 4 .str), .row 98 (.pair (.int .i64) (.arr 4 .str)), .row 9 .str, .row 48 (.pair (.int .i64) .str)] }
def c_rectolaw28_does : Ctr := { k0 := 2, inp := I_rectolaw28_does, body := fun v => .need (Sp.does8.pre v.1 (v.2.1, v.2.2.1, v.2.2.2.1, v.2.2.2.2.1, v.2.2.2.2.2.1, v.2.2.2.2.2.2.2.2.2.2.2.1, v.2.2.2.2.2.2.2.2.2.2.2.2.1) (v.2.2.2.2.2.2.1, v.2.2.2.2.2.2.2.1, v.2.2.2.2.2.2.2.2.1, v.2.2.2.2.2.2.2.2.2.1, v.2.2.2.2.2.2.2.2.2.2.1, v.2.2.2.2.2.2.2.2.2.2.2.2.2.1, v.2.2.2.2.2.2.2.2.2.2.2.2.2.2.1)) (.ret ⟨O_rectolaw28_does, (Sp.does8 v.1 (v.2.1, v.2.2.1, v.2.2.2.1, v.2.2.2.2.1, v.2.2.2.2.2.1, v.2.2.2.2.2.2.2.2.2.2.2.1, v.2.2.2.2.2.2.2.2.2.2.2.2.1) (v.2.2.2.2.2.2.1, v.2.2.2.2.2.2.2.1, v.2.2.2.2.2.2.2.2.1, v.2.2.2.2.2.2.2.2.2.1, v.2.2.2.2.2.2.2.2.2.2.1, v.2.2.2.2.2.2.2.2.2.2.2.2.2.1, v.2.2.2.2.2.2.2.2.2.2.2.2.2.2.1), (Sp.sStep v.1 (v.2.1, v.2.2.1, v.2.2.2.1, v.2.2.2.2.1, v.2.2.2.2.2.1, v.2.2.2.2.2.2.2.2.2.2.2.1, v.2.2.2.2.2.2.2.2.2.2.2.2.1)).1.1, (Sp.sStep v.1 (v.2.1, v.2.2.1, v.2.2.2.1, v.2.2.2.2.1, v.2.2.2.2.2.1, v.2.2.2.2.2.2.2.2.2.2.2.1, v.2.2.2.2.2.2.2.2.2.2.2.2.1)).1.2.1, (Sp.sStep v.1 (v.2.1, v.2.2.1, v.2.2.2.1, v.2.2.2.2.1, v.2.2.2.2.2.1, v.2.2.2.2.2.2.2.2.2.2.2.1, v.2.2.2.2.2.2.2.2.2.2.2.2.1)).1.2.2.1, (Sp.sStep v.1 (v.2.1, v.2.2.1, v.2.2.2.1, v.2.2.2.2.1, v.2.2.2.2.2.1, v.2.2.2.2.2.2.2.2.2.2.2.1, v.2.2.2.2.2.2.2.2.2.2.2.2.1)).1.2.2.2.1, (Sp.sStep v.1 (v.2.1, v.2.2.1, v.2.2.2.1, v.2.2.2.2.1, v.2.2.2.2.2.1, v.2.2.2.2.2.2.2.2.2.2.2.1, v.2.2.2.2.2.2.2.2.2.2.2.2.1)).1.2.2.2.2.1, (Sp.tStep v.1 (v.2.2.2.2.2.2.1, v.2.2.2.2.2.2.2.1, v.2.2.2.2.2.2.2.2.1, v.2.2.2.2.2.2.2.2.2.1, v.2.2.2.2.2.2.2.2.2.2.1, v.2.2.2.2.2.2.2.2.2.2.2.2.2.1, v.2.2.2.2.2.2.2.2.2.2.2.2.2.2.1)).1.1, (Sp.tStep v.1 (v.2.2.2.2.2.2.1, v.2.2.2.2.2.2.2.1, v.2.2.2.2.2.2.2.2.1, v.2.2.2.2.2.2.2.2.2.1, v.2.2.2.2.2.2.2.2.2.2.1, v.2.2.2.2.2.2.2.2.2.2.2.2.2.1, v.2.2.2.2.2.2.2.2.2.2.2.2.2.2.1)).1.2.1, (Sp.tStep v.1 (v.2.2.2.2.2.2.1, v.2.2.2.2.2.2.2.1, v.2.2.2.2.2.2.2.2.1, v.2.2.2.2.2.2.2.2.2.1, v.2.2.2.2.2.2.2.2.2.2.1, v.2.2.2.2.2.2.2.2.2.2.2.2.2.1, v.2.2.2.2.2.2.2.2.2.2.2.2.2.2.1)).1.2.2.1, (Sp.tStep v.1 (v.2.2.2.2.2.2.1, v.2.2.2.2.2.2.2.1, v.2.2.2.2.2.2.2.2.1, v.2.2.2.2.2.2.2.2.2.1, v.2.2.2.2.2.2.2.2.2.2.1, v.2.2.2.2.2.2.2.2.2.2.2.2.2.1, v.2.2.2.2.2.2.2.2.2.2.2.2.2.2.1)).1.2.2.2.1, (Sp.tStep v.1 (v.2.2.2.2.2.2.1, v.2.2.2.2.2.2.2.1, v.2.2.2.2.2.2.2.2.1, v.2.2.2.2.2.2.2.2.2.1, v.2.2.2.2.2.2.2.2.2.2.1, v.2.2.2.2.2.2.2.2.2.2.2.2.2.1, v.2.2.2.2.2.2.2.2.2.2.2.2.2.2.1)).1.2.2.2.2.1, (Sp.sStep v.1 (v.2.1, v.2.2.1, v.2.2.2.1, v.2.2.2.2.1, v.2.2.2.2.2.1, v.2.2.2.2.2.2.2.2.2.2.2.1, v.2.2.2.2.2.2.2.2.2.2.2.2.1)).1.2.2.2.2.2.1, (Sp.sStep v.1 (v.2.1, v.2.2.1, v.2.2.2.1, v.2.2.2.2.1, v.2.2.2.2.2.1, v.2.2.2.2.2.2.2.2.2.2.2.1, v.2.2.2.2.2.2.2.2.2.2.2.2.1)).1.2.2.2.2.2.2, (Sp.tStep v.1 (v.2.2.2.2.2.2.1, v.2.2.2.2.2.2.2.1, v.2.2.2.2.2.2.2.2.1, v.2.2.2.2.2.2.2.2.2.1, v.2.2.2.2.2.2.2.2.2.2.1, v.2.2.2.2.2.2.2.2.2.2.2.2.2.1, v.2.2.2.2.2.2.2.2.2.2.2.2.2.2.1)).1.2.2.2.2.2.1, (Sp.tStep v.1 (v.2.2.2.2.2.2.1, v.2.2.2.2.2.2.2.1, v.2.2.2.2.2.2.2.2.1, v.2.2.2.2.2.2.2.2.2.1, v.2.2.2.2.2.2.2.2.2.2.1, v.2.2.2.2.2.2.2.2.2.2.2.2.2.1, v.2.2.2.2.2.2.2.2.2.2.2.2.2.2.1)).1.2.2.2.2.2.2, ())⟩), ex := 0 }
def an_rectolaw28_does : Ann := []
def cx_rectolaw28_does : Cx := mkCx [(39, [c_slot_Put]), (37, [c_rectolaw28_ref]), (58, [c_rectoref28_Put]), (38, [c_slot_Format]), (59, [c_rectoref28_Format]), (60, [c_rectolaw28_fill]), (15, [c_disk_Disk_Write, c_disk_Write_nil]), (17, [c_rectoref27_Disk_Write]), (18, [c_disk_Disk_Flush, c_disk_Flush_nil]), (19, [c_rectoref27_Disk_Flush]), (20, [c_disk_Disk_Crash, c_disk_Crash_nil]), (48, [c_rectoref27_Disk_Crash]), (29, [c_disk_Disk_Start, c_disk_Start_nil]), (49, [c_rectoref27_Disk_Start]), (28, [c_disk_Disk_Set, c_disk_Set_nil]), (50, [c_rectoref27_Disk_Set])]
theorem eq_rectolaw28_does (s : (Int × (Int × ((Int × (Int × (Int × Int))) × (Int × (Bool × (List Int))))))) (down : Bool) (armed : Bool) (after : Int) (acut : Bool) (keep : (List Int)) (rdown : Bool) (rarmed : Bool) (rafter : Int) (racut : Bool) (rkeep : (List Int)) (bs : (List (List Str))) (ws : (List (Int × (List Str)))) (rbs : (List Str)) (rws : (List (Int × Str))) (R : ((p : Pat) × p.V) → Prop) : fnVc (cx_rectolaw28_does) an_rectolaw28_does 2 Try.f34 I_rectolaw28_does [O_rectolaw28_does] (s, down, armed, after, acut, keep, rdown, rarmed, rafter, racut, rkeep, bs, ws, rbs, rws, ()) R = rectolaw28_does.vc (fun y0 y1 y2 y3 y4 y5 y6 y7 y8 y9 y10 y11 y12 y13 y14 => R ⟨O_rectolaw28_does, (y0, y1, y2, y3, y4, y5, y6, y7, y8, y9, y10, y11, y12, y13, y14, ())⟩) s down armed after acut keep rdown rarmed rafter racut rkeep bs ws rbs rws := by kernel_rfl
theorem fs_rectolaw28_does : CtrsOk Try.prog [(39, [c_slot_Put]), (37, [c_rectolaw28_ref]), (58, [c_rectoref28_Put]), (38, [c_slot_Format]), (59, [c_rectoref28_Format]), (60, [c_rectolaw28_fill]), (15, [c_disk_Disk_Write, c_disk_Write_nil]), (17, [c_rectoref27_Disk_Write]), (18, [c_disk_Disk_Flush, c_disk_Flush_nil]), (19, [c_rectoref27_Disk_Flush]), (20, [c_disk_Disk_Crash, c_disk_Crash_nil]), (48, [c_rectoref27_Disk_Crash]), (29, [c_disk_Disk_Start, c_disk_Start_nil]), (49, [c_rectoref27_Disk_Start]), (28, [c_disk_Disk_Set, c_disk_Set_nil]), (50, [c_rectoref27_Disk_Set])] := ⟨ctr1 (ctr_slot_Put), ctr1 (ctr_rectolaw28_ref), ctr1 (ctr_rectoref28_Put), ctr1 (ctr_slot_Format), ctr1 (ctr_rectoref28_Format), ctr1 (ctr_rectolaw28_fill), (ctrC (ctr_disk_Disk_Write) (ctr1 (ctr_disk_Write_nil))), ctr1 (ctr_rectoref27_Disk_Write), (ctrC (ctr_disk_Disk_Flush) (ctr1 (ctr_disk_Flush_nil))), ctr1 (ctr_rectoref27_Disk_Flush), (ctrC (ctr_disk_Disk_Crash) (ctr1 (ctr_disk_Crash_nil))), ctr1 (ctr_rectoref27_Disk_Crash), (ctrC (ctr_disk_Disk_Start) (ctr1 (ctr_disk_Start_nil))), ctr1 (ctr_rectoref27_Disk_Start), (ctrC (ctr_disk_Disk_Set) (ctr1 (ctr_disk_Set_nil))), ctr1 (ctr_rectoref27_Disk_Set), trivial⟩
theorem vc_rectolaw28_does (H : Nat → Entry) (v : c_rectolaw28_does.inp.V) (r : (p : Pat) × p.V) (h : (c_rectolaw28_does.body v).Sel H r) : fnVc (cx_rectolaw28_does) an_rectolaw28_does 2 Try.f34 c_rectolaw28_does.inp [O_rectolaw28_does] v (fun r' => r' = r) := by
  obtain ⟨s, down, armed, after, acut, keep, rdown, rarmed, rafter, racut, rkeep, bs, ws, rbs, rws, ⟨⟩⟩ := v
  obtain ⟨h, rfl⟩ := h
  exact Eq.mpr (eq_rectolaw28_does s down armed after acut keep rdown rarmed rafter racut rkeep bs ws rbs rws _) (rectolaw28_does.ok _ s down armed after acut keep rdown rarmed rafter racut rkeep bs ws rbs rws h rfl)
theorem ctr_rectolaw28_does : CtrOk Try.prog 34 c_rectolaw28_does := ⟨⟨_, Try.func34, by kernel_rfl, by kernel_rfl⟩, fun H v r h => mk_ok _ (fs_rectolaw28_does) (an := an_rectolaw28_does) (outs := [O_rectolaw28_does]) Try.func34 (by decide) (vc_rectolaw28_does H v r h)⟩
abbrev I_rectolaw28_SlotBack : Pat := { slots := [(0, .ag (.pair (.int .i64) (.pair (.int .i64) (.pair (.int .i64) (.int .i64))))), (1, .ce (.v (.int .u8)))], ents := [] }
abbrev O_rectolaw28_SlotBack : Pat := { slots := [(0, .ce (.v .bool))], ents := [] }
def c_rectolaw28_SlotBack : Ctr := { k0 := 0, inp := I_rectolaw28_SlotBack, body := fun v => .need (Sz (.pair (.int .i64) (.pair (.int .i64) (.pair (.int .i64) (.int .i64)))) v.1 ∧ Sz (.int .u8) v.2.1) (.ret ⟨O_rectolaw28_SlotBack, ((Sp.tt), ())⟩), ex := 0 }
def an_rectolaw28_SlotBack : Ann := [(8, { slots := [(1, .ce (.v (.int .u8))), (2, .ce (.ptr 0 0)), (7, .ce (.os 1)), (8, .ce (.v (.int .i64)))], ents := [.box 62 [.v (.int .i64), .v (.int .i64), .v (.int .i64), .v (.int .i64)], .row 1000000005 (.int .u8)] })]
def cx_rectolaw28_SlotBack : Cx := mkCx [(30, [c_slot_Block]), (31, [c_rectolaw28_two]), (32, [c_slot_Read])]
theorem eq_rectolaw28_SlotBack (s : (Int × (Int × (Int × Int)))) (behind : Int) (R : ((p : Pat) × p.V) → Prop) : fnVc (cx_rectolaw28_SlotBack) an_rectolaw28_SlotBack 0 Try.f8 I_rectolaw28_SlotBack [O_rectolaw28_SlotBack] (s, behind, ()) R = rectolaw28_SlotBack.vc (fun y0 => R ⟨O_rectolaw28_SlotBack, (y0, ())⟩) s behind := by kernel_rfl
theorem fs_rectolaw28_SlotBack : CtrsOk Try.prog [(30, [c_slot_Block]), (31, [c_rectolaw28_two]), (32, [c_slot_Read])] := ⟨ctr1 (ctr_slot_Block), ctr1 (ctr_rectolaw28_two), ctr1 (ctr_slot_Read), trivial⟩
theorem vc_rectolaw28_SlotBack (H : Nat → Entry) (v : c_rectolaw28_SlotBack.inp.V) (r : (p : Pat) × p.V) (h : (c_rectolaw28_SlotBack.body v).Sel H r) : fnVc (cx_rectolaw28_SlotBack) an_rectolaw28_SlotBack 0 Try.f8 c_rectolaw28_SlotBack.inp [O_rectolaw28_SlotBack] v (fun r' => r' = r) := by
  obtain ⟨s, behind, ⟨⟩⟩ := v
  obtain ⟨h, rfl⟩ := h
  exact Eq.mpr (eq_rectolaw28_SlotBack s behind _) (rectolaw28_SlotBack.ok _ s behind h rfl)
theorem ctr_rectolaw28_SlotBack : CtrOk Try.prog 8 c_rectolaw28_SlotBack := ⟨⟨_, Try.func8, by kernel_rfl, by kernel_rfl⟩, fun H v r h => mk_ok _ (fs_rectolaw28_SlotBack) (an := an_rectolaw28_SlotBack) (outs := [O_rectolaw28_SlotBack]) Try.func8 (by decide) (vc_rectolaw28_SlotBack H v r h)⟩
abbrev I_rectolaw28_SlotSteps : Pat := { slots := [(0, .ce (.v (.sl (.pair (.int .i64) (.pair (.int .i64) (.pair (.pair (.int .i64) (.pair (.int .i64) (.pair (.int .i64) (.int .i64)))) (.pair (.int .u8) (.pair .bool (.sl (.int .i64))))))))))], ents := [] }
abbrev O_rectolaw28_SlotSteps : Pat := { slots := [(0, .ce (.v .bool))], ents := [] }
def c_rectolaw28_SlotSteps : Ctr := { k0 := 0, inp := I_rectolaw28_SlotSteps, body := fun v => .need (Sz (.sl (.pair (.int .i64) (.pair (.int .i64) (.pair (.pair (.int .i64) (.pair (.int .i64) (.pair (.int .i64) (.int .i64)))) (.pair (.int .u8) (.pair .bool (.sl (.int .i64)))))))) v.1) (.ret ⟨O_rectolaw28_SlotSteps, ((Sp.tt), ())⟩), ex := 0 }
def an_rectolaw28_SlotSteps : Ann := [(6, { slots := [(3, .ce (.ptr 0 0)), (5, .ce (.ptr 3 0)), (36, .ce (.v (.sl (.pair (.int .i64) (.pair (.int .i64) (.pair (.pair (.int .i64) (.pair (.int .i64) (.pair (.int .i64) (.int .i64)))) (.pair (.int .u8) (.pair .bool (.sl (.int .i64)))))))))), (37, .ce (.v (.int .i64))), (38, .ce (.v (.int .i64)))], ents := [.box 93 [.os 1, .os 2, .v .bool, .v .bool, .v (.int .i64), .v .bool, .v (.sl (.int .i64))], .row 86 (.arr 4 .str), .row 98 (.pair (.int .i64) (.arr 4 .str)), .box 44 [.os 4, .os 5, .v .bool, .v .bool, .v (.int .i64), .v .bool, .v (.sl (.int .i64))], .row 9 .str, .row 48 (.pair (.int .i64) .str)] })]
def cx_rectolaw28_SlotSteps : Cx := mkCx [(11, [c_disk_New]), (33, [c_rectolaw28_long]), (31, [c_rectolaw28_two]), (14, [c_rectoref27_New]), (34, [c_rectolaw28_does]), (35, [c_slot_Choose]), (36, [c_rectoref28_Choose]), (37, [c_rectolaw28_ref])]
theorem eq_rectolaw28_SlotSteps (l : (List (Int × (Int × ((Int × (Int × (Int × Int))) × (Int × (Bool × (List Int)))))))) (R : ((p : Pat) × p.V) → Prop) : fnVc (cx_rectolaw28_SlotSteps) an_rectolaw28_SlotSteps 0 Try.f9 I_rectolaw28_SlotSteps [O_rectolaw28_SlotSteps] (l, ()) R = rectolaw28_SlotSteps.vc (fun y0 => R ⟨O_rectolaw28_SlotSteps, (y0, ())⟩) l := by kernel_rfl
theorem fs_rectolaw28_SlotSteps : CtrsOk Try.prog [(11, [c_disk_New]), (33, [c_rectolaw28_long]), (31, [c_rectolaw28_two]), (14, [c_rectoref27_New]), (34, [c_rectolaw28_does]), (35, [c_slot_Choose]), (36, [c_rectoref28_Choose]), (37, [c_rectolaw28_ref])] := ⟨ctr1 (ctr_disk_New), ctr1 (ctr_rectolaw28_long), ctr1 (ctr_rectolaw28_two), ctr1 (ctr_rectoref27_New), ctr1 (ctr_rectolaw28_does), ctr1 (ctr_slot_Choose), ctr1 (ctr_rectoref28_Choose), ctr1 (ctr_rectolaw28_ref), trivial⟩
theorem vc_rectolaw28_SlotSteps (H : Nat → Entry) (v : c_rectolaw28_SlotSteps.inp.V) (r : (p : Pat) × p.V) (h : (c_rectolaw28_SlotSteps.body v).Sel H r) : fnVc (cx_rectolaw28_SlotSteps) an_rectolaw28_SlotSteps 0 Try.f9 c_rectolaw28_SlotSteps.inp [O_rectolaw28_SlotSteps] v (fun r' => r' = r) := by
  obtain ⟨l, ⟨⟩⟩ := v
  obtain ⟨h, rfl⟩ := h
  exact Eq.mpr (eq_rectolaw28_SlotSteps l _) (rectolaw28_SlotSteps.ok _ l h rfl)
theorem ctr_rectolaw28_SlotSteps : CtrOk Try.prog 9 c_rectolaw28_SlotSteps := ⟨⟨_, Try.func9, by kernel_rfl, by kernel_rfl⟩, fun H v r h => mk_ok _ (fs_rectolaw28_SlotSteps) (an := an_rectolaw28_SlotSteps) (outs := [O_rectolaw28_SlotSteps]) Try.func9 (by decide) (vc_rectolaw28_SlotSteps H v r h)⟩
abbrev I_rectolaw28_SlotLasts : Pat := { slots := [(0, .ce (.v (.sl (.pair (.int .i64) (.pair (.int .i64) (.pair (.int .i64) (.int .i64))))))), (1, .ce (.v (.sl (.pair (.int .i64) (.pair .bool (.sl (.int .i64))))))), (2, .ce (.v (.sl (.int .i64))))], ents := [] }
abbrev O_rectolaw28_SlotLasts : Pat := { slots := [(0, .ce (.v .bool))], ents := [] }
def c_rectolaw28_SlotLasts : Ctr := { k0 := 0, inp := I_rectolaw28_SlotLasts, body := fun v => .need (Sz (.sl (.pair (.int .i64) (.pair (.int .i64) (.pair (.int .i64) (.int .i64))))) v.1 ∧ Sz (.sl (.pair (.int .i64) (.pair .bool (.sl (.int .i64))))) v.2.1 ∧ Sz (.sl (.int .i64)) v.2.2.1) (.ret ⟨O_rectolaw28_SlotLasts, ((Sp.tt), ())⟩), ex := 0 }
def an_rectolaw28_SlotLasts : Ann := [(5, { slots := [(1, .ce (.v (.sl (.pair (.int .i64) (.pair .bool (.sl (.int .i64))))))), (2, .ce (.v (.sl (.int .i64)))), (7, .ce (.ptr 0 0)), (58, .ce (.v (.sl (.pair (.int .i64) (.pair (.int .i64) (.pair (.int .i64) (.int .i64))))))), (59, .ce (.v (.int .i64))), (60, .ce (.v (.int .i64)))], ents := [.box 93 [.os 1, .os 2, .v .bool, .v .bool, .v (.int .i64), .v .bool, .v (.sl (.int .i64))], .row 86 (.arr 4 .str), .row 98 (.pair (.int .i64) (.arr 4 .str))] })]
def cx_rectolaw28_SlotLasts : Cx := mkCx [(11, [c_disk_New]), (38, [c_slot_Format]), (31, [c_rectolaw28_two]), (35, [c_slot_Choose]), (28, [c_disk_Disk_Set, c_disk_Set_nil]), (39, [c_slot_Put]), (23, [c_disk_Disk_Up, c_disk_Up_nil]), (29, [c_disk_Disk_Start, c_disk_Start_nil]), (20, [c_disk_Disk_Crash, c_disk_Crash_nil])]
theorem eq_rectolaw28_SlotLasts (t : (List (Int × (Int × (Int × Int))))) (o : (List (Int × (Bool × (List Int))))) (A : (List Int)) (R : ((p : Pat) × p.V) → Prop) : fnVc (cx_rectolaw28_SlotLasts) an_rectolaw28_SlotLasts 0 Try.f10 I_rectolaw28_SlotLasts [O_rectolaw28_SlotLasts] (t, o, A, ()) R = rectolaw28_SlotLasts.vc (fun y0 => R ⟨O_rectolaw28_SlotLasts, (y0, ())⟩) t o A := by kernel_rfl
theorem fs_rectolaw28_SlotLasts : CtrsOk Try.prog [(11, [c_disk_New]), (38, [c_slot_Format]), (31, [c_rectolaw28_two]), (35, [c_slot_Choose]), (28, [c_disk_Disk_Set, c_disk_Set_nil]), (39, [c_slot_Put]), (23, [c_disk_Disk_Up, c_disk_Up_nil]), (29, [c_disk_Disk_Start, c_disk_Start_nil]), (20, [c_disk_Disk_Crash, c_disk_Crash_nil])] := ⟨ctr1 (ctr_disk_New), ctr1 (ctr_slot_Format), ctr1 (ctr_rectolaw28_two), ctr1 (ctr_slot_Choose), (ctrC (ctr_disk_Disk_Set) (ctr1 (ctr_disk_Set_nil))), ctr1 (ctr_slot_Put), (ctrC (ctr_disk_Disk_Up) (ctr1 (ctr_disk_Up_nil))), (ctrC (ctr_disk_Disk_Start) (ctr1 (ctr_disk_Start_nil))), (ctrC (ctr_disk_Disk_Crash) (ctr1 (ctr_disk_Crash_nil))), trivial⟩
theorem vc_rectolaw28_SlotLasts (H : Nat → Entry) (v : c_rectolaw28_SlotLasts.inp.V) (r : (p : Pat) × p.V) (h : (c_rectolaw28_SlotLasts.body v).Sel H r) : fnVc (cx_rectolaw28_SlotLasts) an_rectolaw28_SlotLasts 0 Try.f10 c_rectolaw28_SlotLasts.inp [O_rectolaw28_SlotLasts] v (fun r' => r' = r) := by
  obtain ⟨t, o, A, ⟨⟩⟩ := v
  obtain ⟨h, rfl⟩ := h
  exact Eq.mpr (eq_rectolaw28_SlotLasts t o A _) (rectolaw28_SlotLasts.ok _ t o A h rfl)
theorem ctr_rectolaw28_SlotLasts : CtrOk Try.prog 10 c_rectolaw28_SlotLasts := ⟨⟨_, Try.func10, by kernel_rfl, by kernel_rfl⟩, fun H v r h => mk_ok _ (fs_rectolaw28_SlotLasts) (an := an_rectolaw28_SlotLasts) (outs := [O_rectolaw28_SlotLasts]) Try.func10 (by decide) (vc_rectolaw28_SlotLasts H v r h)⟩
end Vs
