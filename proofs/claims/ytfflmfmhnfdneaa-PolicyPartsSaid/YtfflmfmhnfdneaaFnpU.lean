/- Functions held against what they tell. Written by a program of this session. -/
import Derived.Test.YtfflmfmhnfdneaaPlU
import Derived.Test.YtfflmfmhnfdneaaViThree
import Derived.Test.YtfflmfmhnfdneaaTabp
import Derived.Test.YtfflmfmhnfdneaaShp
set_option linter.unnecessarySimpa false
set_option linter.unusedVariables false
set_option linter.unusedSectionVars false
set_option linter.unusedSimpArgs false
set_option autoImplicit false
set_option linter.unusedVariables false
set_option maxRecDepth 100000
attribute [local irreducible] Vi.fnVc
namespace Vs
open Go Vi Go.Proofs
abbrev I_strings_Builder_String : Pat := { slots := [(0, .ce (.ptr 0 0))], ents := [.box 108 [.pn 0, .os 1], .row 5 (.int .u8)] }
abbrev O_strings_Builder_String : Pat := { slots := [(0, .ce (.v .str))], ents := [.box 108 [.pn 0, .z]] }
def c_strings_Builder_String : Ctr := { k0 := 1, inp := I_strings_Builder_String, body := fun v => .ret ⟨O_strings_Builder_String, (bytesOf v.1, ())⟩, ex := 0 }
def an_strings_Builder_String : Ann := []
def cx_strings_Builder_String : Cx := mkCx []
theorem eq_strings_Builder_String (x : (List Int)) (R : ((p : Pat) × p.V) → Prop) : fnVc (cx_strings_Builder_String) an_strings_Builder_String 1 Try.f85 I_strings_Builder_String [O_strings_Builder_String] (x, ()) R = strings_Builder_String.vc (fun y0 => R ⟨O_strings_Builder_String, (y0, ())⟩) x := by kernel_rfl
theorem fs_strings_Builder_String : CtrsOk Try.prog [] := trivial
theorem vc_strings_Builder_String (H : Nat → Entry) (v : c_strings_Builder_String.inp.V) (r : (p : Pat) × p.V) (h : (c_strings_Builder_String.body v).Sel H r) : fnVc (cx_strings_Builder_String) an_strings_Builder_String 1 Try.f85 c_strings_Builder_String.inp [O_strings_Builder_String] v (fun r' => r' = r) := by
  obtain ⟨x, ⟨⟩⟩ := v
  obtain rfl := h
  exact Eq.mpr (eq_strings_Builder_String x _) (strings_Builder_String.ok _ x  rfl)
theorem ctr_strings_Builder_String : CtrOk Try.prog 85 c_strings_Builder_String := ⟨⟨_, Try.func85, by kernel_rfl, by kernel_rfl⟩, fun H v r h => mk_ok _ (fs_strings_Builder_String) (an := an_strings_Builder_String) (outs := [O_strings_Builder_String]) Try.func85 (by decide) (vc_strings_Builder_String H v r h)⟩
abbrev I_strings_Builder_WriteByte : Pat := { slots := [(0, .ce (.ptr 0 0)), (1, .ce (.v (.int .u8)))], ents := [.box 108 [.pn 0, .os 1], .row 5 (.int .u8)] }
abbrev O_strings_Builder_WriteByte : Pat := { slots := [(0, .ce .z)], ents := [.box 108 [.pn 0, .os 1], .row 5 (.int .u8)] }
def c_strings_Builder_WriteByte : Ctr := { k0 := 1, inp := I_strings_Builder_WriteByte, body := fun v => .need (Sp.wb.pre v.2.1 v.1) (.ret ⟨O_strings_Builder_WriteByte, (Sp.wb v.2.1 v.1, ())⟩), ex := 0 }
def an_strings_Builder_WriteByte : Ann := []
def cx_strings_Builder_WriteByte : Cx := mkCx []
theorem eq_strings_Builder_WriteByte (b : Int) (x : (List Int)) (R : ((p : Pat) × p.V) → Prop) : fnVc (cx_strings_Builder_WriteByte) an_strings_Builder_WriteByte 1 Try.f84 I_strings_Builder_WriteByte [O_strings_Builder_WriteByte] (b, x, ()) R = strings_Builder_WriteByte.vc (fun y0 => R ⟨O_strings_Builder_WriteByte, (y0, ())⟩) b x := by kernel_rfl
theorem fs_strings_Builder_WriteByte : CtrsOk Try.prog [] := trivial
theorem vc_strings_Builder_WriteByte (H : Nat → Entry) (v : c_strings_Builder_WriteByte.inp.V) (r : (p : Pat) × p.V) (h : (c_strings_Builder_WriteByte.body v).Sel H r) : fnVc (cx_strings_Builder_WriteByte) an_strings_Builder_WriteByte 1 Try.f84 c_strings_Builder_WriteByte.inp [O_strings_Builder_WriteByte] v (fun r' => r' = r) := by
  obtain ⟨b, x, ⟨⟩⟩ := v
  obtain ⟨h, rfl⟩ := h
  exact Eq.mpr (eq_strings_Builder_WriteByte b x _) (strings_Builder_WriteByte.ok _ b x h rfl)
theorem ctr_strings_Builder_WriteByte : CtrOk Try.prog 84 c_strings_Builder_WriteByte := ⟨⟨_, Try.func84, by kernel_rfl, by kernel_rfl⟩, fun H v r h => mk_ok _ (fs_strings_Builder_WriteByte) (an := an_strings_Builder_WriteByte) (outs := [O_strings_Builder_WriteByte]) Try.func84 (by decide) (vc_strings_Builder_WriteByte H v r h)⟩
abbrev I_chars_Letter : Pat := { slots := [(0, .ce (.v (.int .u8)))], ents := [] }
abbrev O_chars_Letter : Pat := { slots := [(0, .ce (.v .bool))], ents := [] }
def c_chars_Letter : Ctr := { k0 := 0, inp := I_chars_Letter, body := fun v => .ret ⟨O_chars_Letter, ((Sp.letB v.1), ())⟩, ex := 0 }
def an_chars_Letter : Ann := []
def cx_chars_Letter : Cx := mkCx []
theorem eq_chars_Letter (b : Int) (R : ((p : Pat) × p.V) → Prop) : fnVc (cx_chars_Letter) an_chars_Letter 0 Try.f87 I_chars_Letter [O_chars_Letter] (b, ()) R = chars_Letter.vc (fun y0 => R ⟨O_chars_Letter, (y0, ())⟩) b := by kernel_rfl
theorem fs_chars_Letter : CtrsOk Try.prog [] := trivial
theorem vc_chars_Letter (H : Nat → Entry) (v : c_chars_Letter.inp.V) (r : (p : Pat) × p.V) (h : (c_chars_Letter.body v).Sel H r) : fnVc (cx_chars_Letter) an_chars_Letter 0 Try.f87 c_chars_Letter.inp [O_chars_Letter] v (fun r' => r' = r) := by
  obtain ⟨b, ⟨⟩⟩ := v
  obtain rfl := h
  exact Eq.mpr (eq_chars_Letter b _) (chars_Letter.ok _ b  rfl)
theorem ctr_chars_Letter : CtrOk Try.prog 87 c_chars_Letter := ⟨⟨_, Try.func87, by kernel_rfl, by kernel_rfl⟩, fun H v r h => mk_ok _ (fs_chars_Letter) (an := an_chars_Letter) (outs := [O_chars_Letter]) Try.func87 (by decide) (vc_chars_Letter H v r h)⟩
abbrev I_chars_Digit : Pat := { slots := [(0, .ce (.v (.int .u8)))], ents := [] }
abbrev O_chars_Digit : Pat := { slots := [(0, .ce (.v .bool))], ents := [] }
def c_chars_Digit : Ctr := { k0 := 0, inp := I_chars_Digit, body := fun v => .ret ⟨O_chars_Digit, ((Sp.digB v.1), ())⟩, ex := 0 }
def an_chars_Digit : Ann := []
def cx_chars_Digit : Cx := mkCx []
theorem eq_chars_Digit (b : Int) (R : ((p : Pat) × p.V) → Prop) : fnVc (cx_chars_Digit) an_chars_Digit 0 Try.f79 I_chars_Digit [O_chars_Digit] (b, ()) R = chars_Digit.vc (fun y0 => R ⟨O_chars_Digit, (y0, ())⟩) b := by kernel_rfl
theorem fs_chars_Digit : CtrsOk Try.prog [] := trivial
theorem vc_chars_Digit (H : Nat → Entry) (v : c_chars_Digit.inp.V) (r : (p : Pat) × p.V) (h : (c_chars_Digit.body v).Sel H r) : fnVc (cx_chars_Digit) an_chars_Digit 0 Try.f79 c_chars_Digit.inp [O_chars_Digit] v (fun r' => r' = r) := by
  obtain ⟨b, ⟨⟩⟩ := v
  obtain rfl := h
  exact Eq.mpr (eq_chars_Digit b _) (chars_Digit.ok _ b  rfl)
theorem ctr_chars_Digit : CtrOk Try.prog 79 c_chars_Digit := ⟨⟨_, Try.func79, by kernel_rfl, by kernel_rfl⟩, fun H v r h => mk_ok _ (fs_chars_Digit) (an := an_chars_Digit) (outs := [O_chars_Digit]) Try.func79 (by decide) (vc_chars_Digit H v r h)⟩
abbrev I_chars_Lower : Pat := { slots := [(0, .ce (.v .str))], ents := [] }
abbrev O_chars_Lower : Pat := { slots := [(0, .ce (.v .str))], ents := [] }
def c_chars_Lower : Ctr := { k0 := 0, inp := I_chars_Lower, body := fun v => .need (Sp.lower.pre v.1) (.ret ⟨O_chars_Lower, ((Sp.lower v.1), ())⟩), ex := 0 }
def an_chars_Lower : Ann := [(3, { slots := [(3, .ce (.os 0)), (8, .ce (.v (.int .i64))), (9, .ce (.v (.int .i64)))], ents := [.row 1000000005 (.int .u8)] })]
def cx_chars_Lower : Cx := mkCx []
theorem eq_chars_Lower (s : Str) (R : ((p : Pat) × p.V) → Prop) : fnVc (cx_chars_Lower) an_chars_Lower 0 Try.f44 I_chars_Lower [O_chars_Lower] (s, ()) R = chars_Lower.vc (fun y0 => R ⟨O_chars_Lower, (y0, ())⟩) s := by kernel_rfl
theorem fs_chars_Lower : CtrsOk Try.prog [] := trivial
theorem vc_chars_Lower (H : Nat → Entry) (v : c_chars_Lower.inp.V) (r : (p : Pat) × p.V) (h : (c_chars_Lower.body v).Sel H r) : fnVc (cx_chars_Lower) an_chars_Lower 0 Try.f44 c_chars_Lower.inp [O_chars_Lower] v (fun r' => r' = r) := by
  obtain ⟨s, ⟨⟩⟩ := v
  obtain ⟨h, rfl⟩ := h
  exact Eq.mpr (eq_chars_Lower s _) (chars_Lower.ok _ s h rfl)
theorem ctr_chars_Lower : CtrOk Try.prog 44 c_chars_Lower := ⟨⟨_, Try.func44, by kernel_rfl, by kernel_rfl⟩, fun H v r h => mk_ok _ (fs_chars_Lower) (an := an_chars_Lower) (outs := [O_chars_Lower]) Try.func44 (by decide) (vc_chars_Lower H v r h)⟩
abbrev I_rectoref03_Letter : Pat := { slots := [(0, .ce (.v (.int .u8)))], ents := [] }
abbrev O_rectoref03_Letter : Pat := { slots := [(0, .ce (.v .bool))], ents := [] }
def c_rectoref03_Letter : Ctr := { k0 := 0, inp := I_rectoref03_Letter, body := fun v => .ret ⟨O_rectoref03_Letter, ((Sp.letB v.1), ())⟩, ex := 0 }
def an_rectoref03_Letter : Ann := []
def cx_rectoref03_Letter : Cx := mkCx []
theorem eq_rectoref03_Letter (b : Int) (R : ((p : Pat) × p.V) → Prop) : fnVc (cx_rectoref03_Letter) an_rectoref03_Letter 0 Try.f81 I_rectoref03_Letter [O_rectoref03_Letter] (b, ()) R = rectoref03_Letter.vc (fun y0 => R ⟨O_rectoref03_Letter, (y0, ())⟩) b := by kernel_rfl
theorem fs_rectoref03_Letter : CtrsOk Try.prog [] := trivial
theorem vc_rectoref03_Letter (H : Nat → Entry) (v : c_rectoref03_Letter.inp.V) (r : (p : Pat) × p.V) (h : (c_rectoref03_Letter.body v).Sel H r) : fnVc (cx_rectoref03_Letter) an_rectoref03_Letter 0 Try.f81 c_rectoref03_Letter.inp [O_rectoref03_Letter] v (fun r' => r' = r) := by
  obtain ⟨b, ⟨⟩⟩ := v
  obtain rfl := h
  exact Eq.mpr (eq_rectoref03_Letter b _) (rectoref03_Letter.ok _ b  rfl)
theorem ctr_rectoref03_Letter : CtrOk Try.prog 81 c_rectoref03_Letter := ⟨⟨_, Try.func81, by kernel_rfl, by kernel_rfl⟩, fun H v r h => mk_ok _ (fs_rectoref03_Letter) (an := an_rectoref03_Letter) (outs := [O_rectoref03_Letter]) Try.func81 (by decide) (vc_rectoref03_Letter H v r h)⟩
abbrev I_rectoref03_Digit : Pat := { slots := [(0, .ce (.v (.int .u8)))], ents := [] }
abbrev O_rectoref03_Digit : Pat := { slots := [(0, .ce (.v .bool))], ents := [] }
def c_rectoref03_Digit : Ctr := { k0 := 0, inp := I_rectoref03_Digit, body := fun v => .ret ⟨O_rectoref03_Digit, ((Sp.digB v.1), ())⟩, ex := 0 }
def an_rectoref03_Digit : Ann := []
def cx_rectoref03_Digit : Cx := mkCx []
theorem eq_rectoref03_Digit (b : Int) (R : ((p : Pat) × p.V) → Prop) : fnVc (cx_rectoref03_Digit) an_rectoref03_Digit 0 Try.f82 I_rectoref03_Digit [O_rectoref03_Digit] (b, ()) R = rectoref03_Digit.vc (fun y0 => R ⟨O_rectoref03_Digit, (y0, ())⟩) b := by kernel_rfl
theorem fs_rectoref03_Digit : CtrsOk Try.prog [] := trivial
theorem vc_rectoref03_Digit (H : Nat → Entry) (v : c_rectoref03_Digit.inp.V) (r : (p : Pat) × p.V) (h : (c_rectoref03_Digit.body v).Sel H r) : fnVc (cx_rectoref03_Digit) an_rectoref03_Digit 0 Try.f82 c_rectoref03_Digit.inp [O_rectoref03_Digit] v (fun r' => r' = r) := by
  obtain ⟨b, ⟨⟩⟩ := v
  obtain rfl := h
  exact Eq.mpr (eq_rectoref03_Digit b _) (rectoref03_Digit.ok _ b  rfl)
theorem ctr_rectoref03_Digit : CtrOk Try.prog 82 c_rectoref03_Digit := ⟨⟨_, Try.func82, by kernel_rfl, by kernel_rfl⟩, fun H v r h => mk_ok _ (fs_rectoref03_Digit) (an := an_rectoref03_Digit) (outs := [O_rectoref03_Digit]) Try.func82 (by decide) (vc_rectoref03_Digit H v r h)⟩
abbrev I_rectoref03_Lower : Pat := { slots := [(0, .ce (.v .str))], ents := [] }
abbrev O_rectoref03_Lower : Pat := { slots := [(0, .ce (.v .str))], ents := [] }
def c_rectoref03_Lower : Ctr := { k0 := 0, inp := I_rectoref03_Lower, body := fun v => .need (Sp.lower.pre v.1) (.ret ⟨O_rectoref03_Lower, ((Sp.lower v.1), ())⟩), ex := 0 }
def an_rectoref03_Lower : Ann := [(3, { slots := [(0, .ce (.v .str)), (3, .ce (.v .str)), (4, .ce (.v (.int .i64)))], ents := [] })]
def cx_rectoref03_Lower : Cx := mkCx []
theorem eq_rectoref03_Lower (s : Str) (R : ((p : Pat) × p.V) → Prop) : fnVc (cx_rectoref03_Lower) an_rectoref03_Lower 0 Try.f28 I_rectoref03_Lower [O_rectoref03_Lower] (s, ()) R = rectoref03_Lower.vc (fun y0 => R ⟨O_rectoref03_Lower, (y0, ())⟩) s := by kernel_rfl
theorem fs_rectoref03_Lower : CtrsOk Try.prog [] := trivial
theorem vc_rectoref03_Lower (H : Nat → Entry) (v : c_rectoref03_Lower.inp.V) (r : (p : Pat) × p.V) (h : (c_rectoref03_Lower.body v).Sel H r) : fnVc (cx_rectoref03_Lower) an_rectoref03_Lower 0 Try.f28 c_rectoref03_Lower.inp [O_rectoref03_Lower] v (fun r' => r' = r) := by
  obtain ⟨s, ⟨⟩⟩ := v
  obtain ⟨h, rfl⟩ := h
  exact Eq.mpr (eq_rectoref03_Lower s _) (rectoref03_Lower.ok _ s h rfl)
theorem ctr_rectoref03_Lower : CtrOk Try.prog 28 c_rectoref03_Lower := ⟨⟨_, Try.func28, by kernel_rfl, by kernel_rfl⟩, fun H v r h => mk_ok _ (fs_rectoref03_Lower) (an := an_rectoref03_Lower) (outs := [O_rectoref03_Lower]) Try.func28 (by decide) (vc_rectoref03_Lower H v r h)⟩
abbrev I_urls_Plain : Pat := { slots := [(0, .ce (.v .str))], ents := [] }
abbrev O_urls_Plain : Pat := { slots := [(0, .ce (.v .str))], ents := [] }
def c_urls_Plain : Ctr := { k0 := 0, inp := I_urls_Plain, body := fun v => .need (Sp.plainU.pre v.1) (.ret ⟨O_urls_Plain, ((Sp.plainU v.1), ())⟩), ex := 0 }
def an_urls_Plain : Ann := [(1, { slots := [(0, .ce (.v .str))], ents := [] }), (3, { slots := [(0, .ce (.v .str))], ents := [] }), (7, { slots := [(0, .ce (.v .str)), (3, .ce (.ptr 0 0)), (30, .ce (.v (.int .i64))), (31, .ce (.v (.int .i64)))], ents := [.box 108 [.pn 0, .os 1], .row 5 (.int .u8)] })]
def cx_urls_Plain : Cx := mkCx [(84, [c_strings_Builder_WriteByte]), (85, [c_strings_Builder_String])]
theorem eq_urls_Plain (s : Str) (R : ((p : Pat) × p.V) → Prop) : fnVc (cx_urls_Plain) an_urls_Plain 0 Try.f70 I_urls_Plain [O_urls_Plain] (s, ()) R = urls_Plain.vc (fun y0 => R ⟨O_urls_Plain, (y0, ())⟩) s := by kernel_rfl
theorem fs_urls_Plain : CtrsOk Try.prog [(84, [c_strings_Builder_WriteByte]), (85, [c_strings_Builder_String])] := ⟨ctr1 (ctr_strings_Builder_WriteByte), ctr1 (ctr_strings_Builder_String), trivial⟩
theorem vc_urls_Plain (H : Nat → Entry) (v : c_urls_Plain.inp.V) (r : (p : Pat) × p.V) (h : (c_urls_Plain.body v).Sel H r) : fnVc (cx_urls_Plain) an_urls_Plain 0 Try.f70 c_urls_Plain.inp [O_urls_Plain] v (fun r' => r' = r) := by
  obtain ⟨s, ⟨⟩⟩ := v
  obtain ⟨h, rfl⟩ := h
  exact Eq.mpr (eq_urls_Plain s _) (urls_Plain.ok _ s h rfl)
theorem ctr_urls_Plain : CtrOk Try.prog 70 c_urls_Plain := ⟨⟨_, Try.func70, by kernel_rfl, by kernel_rfl⟩, fun H v r h => mk_ok _ (fs_urls_Plain) (an := an_urls_Plain) (outs := [O_urls_Plain]) Try.func70 (by decide) (vc_urls_Plain H v r h)⟩
abbrev I_rectoref15_Plain : Pat := { slots := [(0, .ce (.v .str))], ents := [] }
abbrev O_rectoref15_Plain : Pat := { slots := [(0, .ce (.v .str))], ents := [] }
def c_rectoref15_Plain : Ctr := { k0 := 0, inp := I_rectoref15_Plain, body := fun v => .need (Sp.plainU.pre v.1) (.ret ⟨O_rectoref15_Plain, ((Sp.plainU v.1), ())⟩), ex := 0 }
def an_rectoref15_Plain : Ann := [(2, { slots := [(0, .ce (.v .str)), (3, .ce (.v (.int .i64)))], ents := [] }), (5, { slots := [(0, .ce (.v .str)), (3, .ce (.v (.int .i64))), (4, .ce (.v (.int .i64)))], ents := [] }), (9, { slots := [(0, .ce (.v .str)), (4, .ce (.v (.int .i64))), (5, .ce (.v .str)), (6, .ce (.v (.int .i64)))], ents := [] })]
def cx_rectoref15_Plain : Cx := mkCx []
theorem eq_rectoref15_Plain (s : Str) (R : ((p : Pat) × p.V) → Prop) : fnVc (cx_rectoref15_Plain) an_rectoref15_Plain 0 Try.f65 I_rectoref15_Plain [O_rectoref15_Plain] (s, ()) R = rectoref15_Plain.vc (fun y0 => R ⟨O_rectoref15_Plain, (y0, ())⟩) s := by kernel_rfl
theorem fs_rectoref15_Plain : CtrsOk Try.prog [] := trivial
theorem vc_rectoref15_Plain (H : Nat → Entry) (v : c_rectoref15_Plain.inp.V) (r : (p : Pat) × p.V) (h : (c_rectoref15_Plain.body v).Sel H r) : fnVc (cx_rectoref15_Plain) an_rectoref15_Plain 0 Try.f65 c_rectoref15_Plain.inp [O_rectoref15_Plain] v (fun r' => r' = r) := by
  obtain ⟨s, ⟨⟩⟩ := v
  obtain ⟨h, rfl⟩ := h
  exact Eq.mpr (eq_rectoref15_Plain s _) (rectoref15_Plain.ok _ s h rfl)
theorem ctr_rectoref15_Plain : CtrOk Try.prog 65 c_rectoref15_Plain := ⟨⟨_, Try.func65, by kernel_rfl, by kernel_rfl⟩, fun H v r h => mk_ok _ (fs_rectoref15_Plain) (an := an_rectoref15_Plain) (outs := [O_rectoref15_Plain]) Try.func65 (by decide) (vc_rectoref15_Plain H v r h)⟩
abbrev I_internal_stringslite_IndexByte : Pat := { slots := [(0, .ce (.v .str)), (1, .ce (.v (.int .u8)))], ents := [] }
abbrev O_internal_stringslite_IndexByte : Pat := { slots := [(0, .ce (.v (.int .i64)))], ents := [] }
def c_internal_stringslite_IndexByte : Ctr := { k0 := 0, inp := I_internal_stringslite_IndexByte, body := fun v => .ret ⟨O_internal_stringslite_IndexByte, ((Sp.idxB v.1 v.2.1), ())⟩, ex := 2 }

theorem ctr_internal_stringslite_IndexByte : CtrOk Try.prog 91 c_internal_stringslite_IndexByte := ⟨⟨_, Try.func91, by kernel_rfl, by kernel_rfl⟩, fun H v r h => by
  obtain ⟨s, c, ⟨⟩⟩ := v
  subst h
  refine pure_ok fun F S μ w us hF hex hs => ?_
  have hex : us.length = 2 := hex.resolve_left (by decide)
  match us, hex with
  | [u0, u1], _ =>
  obtain ⟨rfl, hsl⟩ := str_of (hs (0, _) (.head _))
  obtain ⟨rfl, h1⟩ := int_of (hs (1, _) (.tail _ (.head _)))
  refine Calls.mono (Try.stringslite_IndexByte ⟨s.toArray⟩ c w) fun e w' he => ?_
  obtain ⟨rfl, rfl⟩ := he
  refine ⟨Go.RowKit.Below.refl _ _, fun F' S' μ' _ _ => ?_⟩
  rw [show (Lib.indexByte (⟨s.toArray⟩ : ByteArray).data.toList c.toNat.toUInt8) = Sp.idxB s c from Sp.idxB_lib s c h1.1 h1.2]
  exact pr_int (Sp.idxB_range s c hsl)⟩

abbrev I_strings_IndexByte : Pat := { slots := [(0, .ce (.v .str)), (1, .ce (.v (.int .u8)))], ents := [] }
abbrev O_strings_IndexByte : Pat := { slots := [(0, .ce (.v (.int .i64)))], ents := [] }
def c_strings_IndexByte : Ctr := { k0 := 0, inp := I_strings_IndexByte, body := fun v => .ret ⟨O_strings_IndexByte, ((Sp.idxB v.1 v.2.1), ())⟩, ex := 0 }
def an_strings_IndexByte : Ann := []
def cx_strings_IndexByte : Cx := mkCx [(91, [c_internal_stringslite_IndexByte])]
theorem eq_strings_IndexByte (s : Str) (c : Int) (R : ((p : Pat) × p.V) → Prop) : fnVc (cx_strings_IndexByte) an_strings_IndexByte 0 Try.f86 I_strings_IndexByte [O_strings_IndexByte] (s, c, ()) R = strings_IndexByte.vc (fun y0 => R ⟨O_strings_IndexByte, (y0, ())⟩) s c := by kernel_rfl
theorem fs_strings_IndexByte : CtrsOk Try.prog [(91, [c_internal_stringslite_IndexByte])] := ⟨ctr1 (ctr_internal_stringslite_IndexByte), trivial⟩
theorem vc_strings_IndexByte (H : Nat → Entry) (v : c_strings_IndexByte.inp.V) (r : (p : Pat) × p.V) (h : (c_strings_IndexByte.body v).Sel H r) : fnVc (cx_strings_IndexByte) an_strings_IndexByte 0 Try.f86 c_strings_IndexByte.inp [O_strings_IndexByte] v (fun r' => r' = r) := by
  obtain ⟨s, c, ⟨⟩⟩ := v
  obtain rfl := h
  exact Eq.mpr (eq_strings_IndexByte s c _) (strings_IndexByte.ok _ s c  rfl)
theorem ctr_strings_IndexByte : CtrOk Try.prog 86 c_strings_IndexByte := ⟨⟨_, Try.func86, by kernel_rfl, by kernel_rfl⟩, fun H v r h => mk_ok _ (fs_strings_IndexByte) (an := an_strings_IndexByte) (outs := [O_strings_IndexByte]) Try.func86 (by decide) (vc_strings_IndexByte H v r h)⟩
abbrev I_internal_stringslite_Index : Pat := { slots := [(0, .ce (.v .str)), (1, .ce (.v .str))], ents := [] }
abbrev O_internal_stringslite_Index : Pat := { slots := [(0, .ce (.v (.int .i64)))], ents := [] }
def c_internal_stringslite_Index : Ctr := { k0 := 0, inp := I_internal_stringslite_Index, body := fun v => .need (Sp.idx1.pre v.1 v.2.1) (.ret ⟨O_internal_stringslite_Index, ((Sp.idx1 v.1 v.2.1), ())⟩), ex := 0 }
def an_internal_stringslite_Index : Ann := [(15, { slots := [(0, .ce (.v .str)), (1, .ce (.v .str)), (5, .ce (.v (.int .i64))), (6, .ce (.v (.int .u8))), (7, .ce (.v (.int .u8))), (8, .ce (.v (.int .i64))), (9, .ce (.v (.int .i64))), (10, .ce (.v (.int .i64)))], ents := [] })]
def cx_internal_stringslite_Index : Cx := mkCx [(91, [c_internal_stringslite_IndexByte])]
theorem eq_internal_stringslite_Index (t : Str) (o : Str) (R : ((p : Pat) × p.V) → Prop) : fnVc (cx_internal_stringslite_Index) an_internal_stringslite_Index 0 Try.f96 I_internal_stringslite_Index [O_internal_stringslite_Index] (t, o, ()) R = internal_stringslite_Index.vc (fun y0 => R ⟨O_internal_stringslite_Index, (y0, ())⟩) t o := by kernel_rfl
theorem fs_internal_stringslite_Index : CtrsOk Try.prog [(91, [c_internal_stringslite_IndexByte])] := ⟨ctr1 (ctr_internal_stringslite_IndexByte), trivial⟩
theorem vc_internal_stringslite_Index (H : Nat → Entry) (v : c_internal_stringslite_Index.inp.V) (r : (p : Pat) × p.V) (h : (c_internal_stringslite_Index.body v).Sel H r) : fnVc (cx_internal_stringslite_Index) an_internal_stringslite_Index 0 Try.f96 c_internal_stringslite_Index.inp [O_internal_stringslite_Index] v (fun r' => r' = r) := by
  obtain ⟨t, o, ⟨⟩⟩ := v
  obtain ⟨h, rfl⟩ := h
  exact Eq.mpr (eq_internal_stringslite_Index t o _) (internal_stringslite_Index.ok _ t o h rfl)
theorem ctr_internal_stringslite_Index : CtrOk Try.prog 96 c_internal_stringslite_Index := ⟨⟨_, Try.func96, by kernel_rfl, by kernel_rfl⟩, fun H v r h => mk_ok _ (fs_internal_stringslite_Index) (an := an_internal_stringslite_Index) (outs := [O_internal_stringslite_Index]) Try.func96 (by decide) (vc_internal_stringslite_Index H v r h)⟩
abbrev I_internal_stringslite_Cut : Pat := { slots := [(0, .ce (.v .str)), (1, .ce (.v .str))], ents := [] }
abbrev O_internal_stringslite_Cut : Pat := { slots := [(0, .ce (.v .str)), (1, .ce (.v .str)), (2, .ce (.v .bool))], ents := [] }
def c_internal_stringslite_Cut : Ctr := { k0 := 0, inp := I_internal_stringslite_Cut, body := fun v => .need (Sp.cut1.pre v.1 v.2.1) (.ret ⟨O_internal_stringslite_Cut, ((Sp.cut1 v.1 v.2.1).1, (Sp.cut1 v.1 v.2.1).2.1, (Sp.cut1 v.1 v.2.1).2.2, ())⟩), ex := 0 }
def an_internal_stringslite_Cut : Ann := []
def cx_internal_stringslite_Cut : Cx := mkCx [(96, [c_internal_stringslite_Index])]
theorem eq_internal_stringslite_Cut (s : Str) (sep : Str) (R : ((p : Pat) × p.V) → Prop) : fnVc (cx_internal_stringslite_Cut) an_internal_stringslite_Cut 0 Try.f92 I_internal_stringslite_Cut [O_internal_stringslite_Cut] (s, sep, ()) R = internal_stringslite_Cut.vc (fun y0 y1 y2 => R ⟨O_internal_stringslite_Cut, (y0, y1, y2, ())⟩) s sep := by kernel_rfl
theorem fs_internal_stringslite_Cut : CtrsOk Try.prog [(96, [c_internal_stringslite_Index])] := ⟨ctr1 (ctr_internal_stringslite_Index), trivial⟩
theorem vc_internal_stringslite_Cut (H : Nat → Entry) (v : c_internal_stringslite_Cut.inp.V) (r : (p : Pat) × p.V) (h : (c_internal_stringslite_Cut.body v).Sel H r) : fnVc (cx_internal_stringslite_Cut) an_internal_stringslite_Cut 0 Try.f92 c_internal_stringslite_Cut.inp [O_internal_stringslite_Cut] v (fun r' => r' = r) := by
  obtain ⟨s, sep, ⟨⟩⟩ := v
  obtain ⟨h, rfl⟩ := h
  exact Eq.mpr (eq_internal_stringslite_Cut s sep _) (internal_stringslite_Cut.ok _ s sep h rfl)
theorem ctr_internal_stringslite_Cut : CtrOk Try.prog 92 c_internal_stringslite_Cut := ⟨⟨_, Try.func92, by kernel_rfl, by kernel_rfl⟩, fun H v r h => mk_ok _ (fs_internal_stringslite_Cut) (an := an_internal_stringslite_Cut) (outs := [O_internal_stringslite_Cut]) Try.func92 (by decide) (vc_internal_stringslite_Cut H v r h)⟩
abbrev I_strings_Cut : Pat := { slots := [(0, .ce (.v .str)), (1, .ce (.v .str))], ents := [] }
abbrev O_strings_Cut : Pat := { slots := [(0, .ce (.v .str)), (1, .ce (.v .str)), (2, .ce (.v .bool))], ents := [] }
def c_strings_Cut : Ctr := { k0 := 0, inp := I_strings_Cut, body := fun v => .need (Sp.cut1.pre v.1 v.2.1) (.ret ⟨O_strings_Cut, ((Sp.cut1 v.1 v.2.1).1, (Sp.cut1 v.1 v.2.1).2.1, (Sp.cut1 v.1 v.2.1).2.2, ())⟩), ex := 0 }
def an_strings_Cut : Ann := []
def cx_strings_Cut : Cx := mkCx [(92, [c_internal_stringslite_Cut])]
theorem eq_strings_Cut (s : Str) (sep : Str) (R : ((p : Pat) × p.V) → Prop) : fnVc (cx_strings_Cut) an_strings_Cut 0 Try.f88 I_strings_Cut [O_strings_Cut] (s, sep, ()) R = strings_Cut.vc (fun y0 y1 y2 => R ⟨O_strings_Cut, (y0, y1, y2, ())⟩) s sep := by kernel_rfl
theorem fs_strings_Cut : CtrsOk Try.prog [(92, [c_internal_stringslite_Cut])] := ⟨ctr1 (ctr_internal_stringslite_Cut), trivial⟩
theorem vc_strings_Cut (H : Nat → Entry) (v : c_strings_Cut.inp.V) (r : (p : Pat) × p.V) (h : (c_strings_Cut.body v).Sel H r) : fnVc (cx_strings_Cut) an_strings_Cut 0 Try.f88 c_strings_Cut.inp [O_strings_Cut] v (fun r' => r' = r) := by
  obtain ⟨s, sep, ⟨⟩⟩ := v
  obtain ⟨h, rfl⟩ := h
  exact Eq.mpr (eq_strings_Cut s sep _) (strings_Cut.ok _ s sep h rfl)
theorem ctr_strings_Cut : CtrOk Try.prog 88 c_strings_Cut := ⟨⟨_, Try.func88, by kernel_rfl, by kernel_rfl⟩, fun H v r h => mk_ok _ (fs_strings_Cut) (an := an_strings_Cut) (outs := [O_strings_Cut]) Try.func88 (by decide) (vc_strings_Cut H v r h)⟩
abbrev I_internal_stringslite_HasPrefix : Pat := { slots := [(0, .ce (.v .str)), (1, .ce (.v .str))], ents := [] }
abbrev O_internal_stringslite_HasPrefix : Pat := { slots := [(0, .ce (.v .bool))], ents := [] }
def c_internal_stringslite_HasPrefix : Ctr := { k0 := 0, inp := I_internal_stringslite_HasPrefix, body := fun v => .need (Sp.preB.pre v.1 v.2.1) (.ret ⟨O_internal_stringslite_HasPrefix, ((Sp.preB v.1 v.2.1), ())⟩), ex := 0 }
def an_internal_stringslite_HasPrefix : Ann := []
def cx_internal_stringslite_HasPrefix : Cx := mkCx []
theorem eq_internal_stringslite_HasPrefix (s : Str) (prefix_ : Str) (R : ((p : Pat) × p.V) → Prop) : fnVc (cx_internal_stringslite_HasPrefix) an_internal_stringslite_HasPrefix 0 Try.f97 I_internal_stringslite_HasPrefix [O_internal_stringslite_HasPrefix] (s, prefix_, ()) R = internal_stringslite_HasPrefix.vc (fun y0 => R ⟨O_internal_stringslite_HasPrefix, (y0, ())⟩) s prefix_ := by kernel_rfl
theorem fs_internal_stringslite_HasPrefix : CtrsOk Try.prog [] := trivial
theorem vc_internal_stringslite_HasPrefix (H : Nat → Entry) (v : c_internal_stringslite_HasPrefix.inp.V) (r : (p : Pat) × p.V) (h : (c_internal_stringslite_HasPrefix.body v).Sel H r) : fnVc (cx_internal_stringslite_HasPrefix) an_internal_stringslite_HasPrefix 0 Try.f97 c_internal_stringslite_HasPrefix.inp [O_internal_stringslite_HasPrefix] v (fun r' => r' = r) := by
  obtain ⟨s, prefix_, ⟨⟩⟩ := v
  obtain ⟨h, rfl⟩ := h
  exact Eq.mpr (eq_internal_stringslite_HasPrefix s prefix_ _) (internal_stringslite_HasPrefix.ok _ s prefix_ h rfl)
theorem ctr_internal_stringslite_HasPrefix : CtrOk Try.prog 97 c_internal_stringslite_HasPrefix := ⟨⟨_, Try.func97, by kernel_rfl, by kernel_rfl⟩, fun H v r h => mk_ok _ (fs_internal_stringslite_HasPrefix) (an := an_internal_stringslite_HasPrefix) (outs := [O_internal_stringslite_HasPrefix]) Try.func97 (by decide) (vc_internal_stringslite_HasPrefix H v r h)⟩
abbrev I_internal_stringslite_CutPrefix : Pat := { slots := [(0, .ce (.v .str)), (1, .ce (.v .str))], ents := [] }
abbrev O_internal_stringslite_CutPrefix : Pat := { slots := [(0, .ce (.v .str)), (1, .ce (.v .bool))], ents := [] }
def c_internal_stringslite_CutPrefix : Ctr := { k0 := 0, inp := I_internal_stringslite_CutPrefix, body := fun v => .need (Sp.preB.pre v.1 v.2.1) (.ret ⟨O_internal_stringslite_CutPrefix, ((Sp.cutP v.1 v.2.1).1, (Sp.cutP v.1 v.2.1).2, ())⟩), ex := 0 }
def an_internal_stringslite_CutPrefix : Ann := []
def cx_internal_stringslite_CutPrefix : Cx := mkCx [(97, [c_internal_stringslite_HasPrefix])]
theorem eq_internal_stringslite_CutPrefix (s : Str) (prefix_ : Str) (R : ((p : Pat) × p.V) → Prop) : fnVc (cx_internal_stringslite_CutPrefix) an_internal_stringslite_CutPrefix 0 Try.f93 I_internal_stringslite_CutPrefix [O_internal_stringslite_CutPrefix] (s, prefix_, ()) R = internal_stringslite_CutPrefix.vc (fun y0 y1 => R ⟨O_internal_stringslite_CutPrefix, (y0, y1, ())⟩) s prefix_ := by kernel_rfl
theorem fs_internal_stringslite_CutPrefix : CtrsOk Try.prog [(97, [c_internal_stringslite_HasPrefix])] := ⟨ctr1 (ctr_internal_stringslite_HasPrefix), trivial⟩
theorem vc_internal_stringslite_CutPrefix (H : Nat → Entry) (v : c_internal_stringslite_CutPrefix.inp.V) (r : (p : Pat) × p.V) (h : (c_internal_stringslite_CutPrefix.body v).Sel H r) : fnVc (cx_internal_stringslite_CutPrefix) an_internal_stringslite_CutPrefix 0 Try.f93 c_internal_stringslite_CutPrefix.inp [O_internal_stringslite_CutPrefix] v (fun r' => r' = r) := by
  obtain ⟨s, prefix_, ⟨⟩⟩ := v
  obtain ⟨h, rfl⟩ := h
  exact Eq.mpr (eq_internal_stringslite_CutPrefix s prefix_ _) (internal_stringslite_CutPrefix.ok _ s prefix_ h rfl)
theorem ctr_internal_stringslite_CutPrefix : CtrOk Try.prog 93 c_internal_stringslite_CutPrefix := ⟨⟨_, Try.func93, by kernel_rfl, by kernel_rfl⟩, fun H v r h => mk_ok _ (fs_internal_stringslite_CutPrefix) (an := an_internal_stringslite_CutPrefix) (outs := [O_internal_stringslite_CutPrefix]) Try.func93 (by decide) (vc_internal_stringslite_CutPrefix H v r h)⟩
abbrev I_strings_CutPrefix : Pat := { slots := [(0, .ce (.v .str)), (1, .ce (.v .str))], ents := [] }
abbrev O_strings_CutPrefix : Pat := { slots := [(0, .ce (.v .str)), (1, .ce (.v .bool))], ents := [] }
def c_strings_CutPrefix : Ctr := { k0 := 0, inp := I_strings_CutPrefix, body := fun v => .need (Sp.preB.pre v.1 v.2.1) (.ret ⟨O_strings_CutPrefix, ((Sp.cutP v.1 v.2.1).1, (Sp.cutP v.1 v.2.1).2, ())⟩), ex := 0 }
def an_strings_CutPrefix : Ann := []
def cx_strings_CutPrefix : Cx := mkCx [(93, [c_internal_stringslite_CutPrefix])]
theorem eq_strings_CutPrefix (s : Str) (prefix_ : Str) (R : ((p : Pat) × p.V) → Prop) : fnVc (cx_strings_CutPrefix) an_strings_CutPrefix 0 Try.f89 I_strings_CutPrefix [O_strings_CutPrefix] (s, prefix_, ()) R = strings_CutPrefix.vc (fun y0 y1 => R ⟨O_strings_CutPrefix, (y0, y1, ())⟩) s prefix_ := by kernel_rfl
theorem fs_strings_CutPrefix : CtrsOk Try.prog [(93, [c_internal_stringslite_CutPrefix])] := ⟨ctr1 (ctr_internal_stringslite_CutPrefix), trivial⟩
theorem vc_strings_CutPrefix (H : Nat → Entry) (v : c_strings_CutPrefix.inp.V) (r : (p : Pat) × p.V) (h : (c_strings_CutPrefix.body v).Sel H r) : fnVc (cx_strings_CutPrefix) an_strings_CutPrefix 0 Try.f89 c_strings_CutPrefix.inp [O_strings_CutPrefix] v (fun r' => r' = r) := by
  obtain ⟨s, prefix_, ⟨⟩⟩ := v
  obtain ⟨h, rfl⟩ := h
  exact Eq.mpr (eq_strings_CutPrefix s prefix_ _) (strings_CutPrefix.ok _ s prefix_ h rfl)
theorem ctr_strings_CutPrefix : CtrOk Try.prog 89 c_strings_CutPrefix := ⟨⟨_, Try.func89, by kernel_rfl, by kernel_rfl⟩, fun H v r h => mk_ok _ (fs_strings_CutPrefix) (an := an_strings_CutPrefix) (outs := [O_strings_CutPrefix]) Try.func89 (by decide) (vc_strings_CutPrefix H v r h)⟩
abbrev I_urls_cutter_scheme : Pat := { slots := [(0, .ce (.ptr 0 0))], ents := [.box 99 [.v .str, .v .str, .v .str, .v .str, .v .str, .v .str, .v .bool, .v .bool, .v .bool, .v .bool]] }
abbrev O_urls_cutter_scheme : Pat := { slots := [], ents := [.box 99 [.v .str, .v .str, .v .str, .v .str, .v .str, .v .str, .v .bool, .v .bool, .v .bool, .v .bool]] }
def c_urls_cutter_scheme : Ctr := { k0 := 1, inp := I_urls_cutter_scheme, body := fun v => .need (Sp.small v.1) (.ret ⟨O_urls_cutter_scheme, (Sp.schRest v.1, Sp.schName v.1 v.2.1, v.2.2.1, v.2.2.2.1, v.2.2.2.2.1, v.2.2.2.2.2.1, Sp.schHas v.1 v.2.2.2.2.2.2.1, v.2.2.2.2.2.2.2.1, v.2.2.2.2.2.2.2.2.1, v.2.2.2.2.2.2.2.2.2.1, ())⟩), ex := 0 }
def an_urls_cutter_scheme : Ann := [(3, { slots := [(0, .ce (.ptr 0 0)), (2, .ce (.v (.int .i64))), (21, .ce (.v (.int .i64))), (22, .ce (.v (.int .i64)))], ents := [.box 99 [.v .str, .v .str, .v .str, .v .str, .v .str, .v .str, .v .bool, .v .bool, .v .bool, .v .bool]] })]
def cx_urls_cutter_scheme : Cx := mkCx [(86, [c_strings_IndexByte]), (87, [c_chars_Letter]), (79, [c_chars_Digit]), (44, [c_chars_Lower])]
theorem eq_urls_cutter_scheme (rest : Str) (sch : Str) (host : Str) (path : Str) (query : Str) (mark : Str) (hs : Bool) (hh : Bool) (hq : Bool) (hm : Bool) (R : ((p : Pat) × p.V) → Prop) : fnVc (cx_urls_cutter_scheme) an_urls_cutter_scheme 1 Try.f71 I_urls_cutter_scheme [O_urls_cutter_scheme] (rest, sch, host, path, query, mark, hs, hh, hq, hm, ()) R = urls_cutter_scheme.vc (fun y0 y1 y2 y3 y4 y5 y6 y7 y8 y9 => R ⟨O_urls_cutter_scheme, (y0, y1, y2, y3, y4, y5, y6, y7, y8, y9, ())⟩) rest sch host path query mark hs hh hq hm := by kernel_rfl
theorem fs_urls_cutter_scheme : CtrsOk Try.prog [(86, [c_strings_IndexByte]), (87, [c_chars_Letter]), (79, [c_chars_Digit]), (44, [c_chars_Lower])] := ⟨ctr1 (ctr_strings_IndexByte), ctr1 (ctr_chars_Letter), ctr1 (ctr_chars_Digit), ctr1 (ctr_chars_Lower), trivial⟩
theorem vc_urls_cutter_scheme (H : Nat → Entry) (v : c_urls_cutter_scheme.inp.V) (r : (p : Pat) × p.V) (h : (c_urls_cutter_scheme.body v).Sel H r) : fnVc (cx_urls_cutter_scheme) an_urls_cutter_scheme 1 Try.f71 c_urls_cutter_scheme.inp [O_urls_cutter_scheme] v (fun r' => r' = r) := by
  obtain ⟨rest, sch, host, path, query, mark, hs, hh, hq, hm, ⟨⟩⟩ := v
  obtain ⟨h, rfl⟩ := h
  exact Eq.mpr (eq_urls_cutter_scheme rest sch host path query mark hs hh hq hm _) (urls_cutter_scheme.ok _ rest sch host path query mark hs hh hq hm h rfl)
theorem ctr_urls_cutter_scheme : CtrOk Try.prog 71 c_urls_cutter_scheme := ⟨⟨_, Try.func71, by kernel_rfl, by kernel_rfl⟩, fun H v r h => mk_ok _ (fs_urls_cutter_scheme) (an := an_urls_cutter_scheme) (outs := [O_urls_cutter_scheme]) Try.func71 (by decide) (vc_urls_cutter_scheme H v r h)⟩
abbrev I_urls_cutter_mark : Pat := { slots := [(0, .ce (.ptr 0 0))], ents := [.box 99 [.v .str, .v .str, .v .str, .v .str, .v .str, .v .str, .v .bool, .v .bool, .v .bool, .v .bool]] }
abbrev O_urls_cutter_mark : Pat := { slots := [], ents := [.box 99 [.v .str, .v .str, .v .str, .v .str, .v .str, .v .str, .v .bool, .v .bool, .v .bool, .v .bool]] }
def c_urls_cutter_mark : Ctr := { k0 := 1, inp := I_urls_cutter_mark, body := fun v => .need (Sp.small v.1) (.ret ⟨O_urls_cutter_mark, ((Sp.cutC v.1 35).1, v.2.1, v.2.2.1, v.2.2.2.1, v.2.2.2.2.1, (Sp.cutC v.1 35).2.1, v.2.2.2.2.2.2.1, v.2.2.2.2.2.2.2.1, v.2.2.2.2.2.2.2.2.1, (Sp.cutC v.1 35).2.2, ())⟩), ex := 0 }
def an_urls_cutter_mark : Ann := []
def cx_urls_cutter_mark : Cx := mkCx [(88, [c_strings_Cut])]
theorem eq_urls_cutter_mark (rest : Str) (sch : Str) (host : Str) (path : Str) (query : Str) (mark : Str) (hs : Bool) (hh : Bool) (hq : Bool) (hm : Bool) (R : ((p : Pat) × p.V) → Prop) : fnVc (cx_urls_cutter_mark) an_urls_cutter_mark 1 Try.f72 I_urls_cutter_mark [O_urls_cutter_mark] (rest, sch, host, path, query, mark, hs, hh, hq, hm, ()) R = urls_cutter_mark.vc (fun y0 y1 y2 y3 y4 y5 y6 y7 y8 y9 => R ⟨O_urls_cutter_mark, (y0, y1, y2, y3, y4, y5, y6, y7, y8, y9, ())⟩) rest sch host path query mark hs hh hq hm := by kernel_rfl
theorem fs_urls_cutter_mark : CtrsOk Try.prog [(88, [c_strings_Cut])] := ⟨ctr1 (ctr_strings_Cut), trivial⟩
theorem vc_urls_cutter_mark (H : Nat → Entry) (v : c_urls_cutter_mark.inp.V) (r : (p : Pat) × p.V) (h : (c_urls_cutter_mark.body v).Sel H r) : fnVc (cx_urls_cutter_mark) an_urls_cutter_mark 1 Try.f72 c_urls_cutter_mark.inp [O_urls_cutter_mark] v (fun r' => r' = r) := by
  obtain ⟨rest, sch, host, path, query, mark, hs, hh, hq, hm, ⟨⟩⟩ := v
  obtain ⟨h, rfl⟩ := h
  exact Eq.mpr (eq_urls_cutter_mark rest sch host path query mark hs hh hq hm _) (urls_cutter_mark.ok _ rest sch host path query mark hs hh hq hm h rfl)
theorem ctr_urls_cutter_mark : CtrOk Try.prog 72 c_urls_cutter_mark := ⟨⟨_, Try.func72, by kernel_rfl, by kernel_rfl⟩, fun H v r h => mk_ok _ (fs_urls_cutter_mark) (an := an_urls_cutter_mark) (outs := [O_urls_cutter_mark]) Try.func72 (by decide) (vc_urls_cutter_mark H v r h)⟩
abbrev I_urls_cutter_query : Pat := { slots := [(0, .ce (.ptr 0 0))], ents := [.box 99 [.v .str, .v .str, .v .str, .v .str, .v .str, .v .str, .v .bool, .v .bool, .v .bool, .v .bool]] }
abbrev O_urls_cutter_query : Pat := { slots := [], ents := [.box 99 [.v .str, .v .str, .v .str, .v .str, .v .str, .v .str, .v .bool, .v .bool, .v .bool, .v .bool]] }
def c_urls_cutter_query : Ctr := { k0 := 1, inp := I_urls_cutter_query, body := fun v => .need (Sp.small v.1) (.ret ⟨O_urls_cutter_query, ((Sp.cutC v.1 63).1, v.2.1, v.2.2.1, v.2.2.2.1, (Sp.cutC v.1 63).2.1, v.2.2.2.2.2.1, v.2.2.2.2.2.2.1, v.2.2.2.2.2.2.2.1, (Sp.cutC v.1 63).2.2, v.2.2.2.2.2.2.2.2.2.1, ())⟩), ex := 0 }
def an_urls_cutter_query : Ann := []
def cx_urls_cutter_query : Cx := mkCx [(88, [c_strings_Cut])]
theorem eq_urls_cutter_query (rest : Str) (sch : Str) (host : Str) (path : Str) (query : Str) (mark : Str) (hs : Bool) (hh : Bool) (hq : Bool) (hm : Bool) (R : ((p : Pat) × p.V) → Prop) : fnVc (cx_urls_cutter_query) an_urls_cutter_query 1 Try.f73 I_urls_cutter_query [O_urls_cutter_query] (rest, sch, host, path, query, mark, hs, hh, hq, hm, ()) R = urls_cutter_query.vc (fun y0 y1 y2 y3 y4 y5 y6 y7 y8 y9 => R ⟨O_urls_cutter_query, (y0, y1, y2, y3, y4, y5, y6, y7, y8, y9, ())⟩) rest sch host path query mark hs hh hq hm := by kernel_rfl
theorem fs_urls_cutter_query : CtrsOk Try.prog [(88, [c_strings_Cut])] := ⟨ctr1 (ctr_strings_Cut), trivial⟩
theorem vc_urls_cutter_query (H : Nat → Entry) (v : c_urls_cutter_query.inp.V) (r : (p : Pat) × p.V) (h : (c_urls_cutter_query.body v).Sel H r) : fnVc (cx_urls_cutter_query) an_urls_cutter_query 1 Try.f73 c_urls_cutter_query.inp [O_urls_cutter_query] v (fun r' => r' = r) := by
  obtain ⟨rest, sch, host, path, query, mark, hs, hh, hq, hm, ⟨⟩⟩ := v
  obtain ⟨h, rfl⟩ := h
  exact Eq.mpr (eq_urls_cutter_query rest sch host path query mark hs hh hq hm _) (urls_cutter_query.ok _ rest sch host path query mark hs hh hq hm h rfl)
theorem ctr_urls_cutter_query : CtrOk Try.prog 73 c_urls_cutter_query := ⟨⟨_, Try.func73, by kernel_rfl, by kernel_rfl⟩, fun H v r h => mk_ok _ (fs_urls_cutter_query) (an := an_urls_cutter_query) (outs := [O_urls_cutter_query]) Try.func73 (by decide) (vc_urls_cutter_query H v r h)⟩
abbrev I_urls_cutter_host : Pat := { slots := [(0, .ce (.ptr 0 0))], ents := [.box 99 [.v .str, .v .str, .v .str, .v .str, .v .str, .v .str, .v .bool, .v .bool, .v .bool, .v .bool]] }
abbrev O_urls_cutter_host : Pat := { slots := [], ents := [.box 99 [.v .str, .v .str, .v .str, .v .str, .v .str, .v .str, .v .bool, .v .bool, .v .bool, .v .bool]] }
def c_urls_cutter_host : Ctr := { k0 := 1, inp := I_urls_cutter_host, body := fun v => .need (Sp.small v.1) (.ret ⟨O_urls_cutter_host, (Sp.hostRest v.1, v.2.1, Sp.hostName v.1 v.2.2.1, v.2.2.2.1, v.2.2.2.2.1, v.2.2.2.2.2.1, v.2.2.2.2.2.2.1, Sp.hostHas v.1 v.2.2.2.2.2.2.2.1, v.2.2.2.2.2.2.2.2.1, v.2.2.2.2.2.2.2.2.2.1, ())⟩), ex := 0 }
def an_urls_cutter_host : Ann := [(3, { slots := [(0, .ce (.ptr 0 0)), (2, .ce (.v .str)), (4, .ce (.v (.int .i64)))], ents := [.box 99 [.v .str, .v .str, .v .str, .v .str, .v .str, .v .str, .v .bool, .v .bool, .v .bool, .v .bool]] })]
def cx_urls_cutter_host : Cx := mkCx [(89, [c_strings_CutPrefix])]
theorem eq_urls_cutter_host (rest : Str) (sch : Str) (host : Str) (path : Str) (query : Str) (mark : Str) (hs : Bool) (hh : Bool) (hq : Bool) (hm : Bool) (R : ((p : Pat) × p.V) → Prop) : fnVc (cx_urls_cutter_host) an_urls_cutter_host 1 Try.f74 I_urls_cutter_host [O_urls_cutter_host] (rest, sch, host, path, query, mark, hs, hh, hq, hm, ()) R = urls_cutter_host.vc (fun y0 y1 y2 y3 y4 y5 y6 y7 y8 y9 => R ⟨O_urls_cutter_host, (y0, y1, y2, y3, y4, y5, y6, y7, y8, y9, ())⟩) rest sch host path query mark hs hh hq hm := by kernel_rfl
theorem fs_urls_cutter_host : CtrsOk Try.prog [(89, [c_strings_CutPrefix])] := ⟨ctr1 (ctr_strings_CutPrefix), trivial⟩
theorem vc_urls_cutter_host (H : Nat → Entry) (v : c_urls_cutter_host.inp.V) (r : (p : Pat) × p.V) (h : (c_urls_cutter_host.body v).Sel H r) : fnVc (cx_urls_cutter_host) an_urls_cutter_host 1 Try.f74 c_urls_cutter_host.inp [O_urls_cutter_host] v (fun r' => r' = r) := by
  obtain ⟨rest, sch, host, path, query, mark, hs, hh, hq, hm, ⟨⟩⟩ := v
  obtain ⟨h, rfl⟩ := h
  exact Eq.mpr (eq_urls_cutter_host rest sch host path query mark hs hh hq hm _) (urls_cutter_host.ok _ rest sch host path query mark hs hh hq hm h rfl)
theorem ctr_urls_cutter_host : CtrOk Try.prog 74 c_urls_cutter_host := ⟨⟨_, Try.func74, by kernel_rfl, by kernel_rfl⟩, fun H v r h => mk_ok _ (fs_urls_cutter_host) (an := an_urls_cutter_host) (outs := [O_urls_cutter_host]) Try.func74 (by decide) (vc_urls_cutter_host H v r h)⟩
abbrev I_urls_Split : Pat := { slots := [(0, .ce (.v .str))], ents := [] }
abbrev O_urls_Split : Pat := { slots := [(0, .ag (.pair .str (.pair .str (.pair .str (.pair .str (.pair .str (.pair .bool (.pair .bool (.pair .bool .bool)))))))))], ents := [] }
def c_urls_Split : Ctr := { k0 := 0, inp := I_urls_Split, body := fun v => .need (Sp.splitP.pre v.1) (.ret ⟨O_urls_Split, ((Sp.splitP v.1), ())⟩), ex := 0 }
def an_urls_Split : Ann := [(3, { slots := [(2, .ce (.ptr 0 0)), (3, .ce (.ptr 1 0)), (18, .sc [.fn 71 [1] [], .fn 72 [1] [], .fn 73 [1] [], .fn 74 [1] []]), (19, .ce (.v (.int .i64)))], ents := [.box 88 [.v .str, .v .str, .v .str, .v .str, .v .str, .v .bool, .v .bool, .v .bool, .v .bool], .box 99 [.v .str, .v .str, .v .str, .v .str, .v .str, .v .str, .v .bool, .v .bool, .v .bool, .v .bool]] })]
def cx_urls_Split : Cx := mkCx [(70, [c_urls_Plain]), (71, [c_urls_cutter_scheme]), (72, [c_urls_cutter_mark]), (73, [c_urls_cutter_query]), (74, [c_urls_cutter_host])]
theorem eq_urls_Split (s : Str) (R : ((p : Pat) × p.V) → Prop) : fnVc (cx_urls_Split) an_urls_Split 0 Try.f55 I_urls_Split [O_urls_Split] (s, ()) R = urls_Split.vc (fun y0 => R ⟨O_urls_Split, (y0, ())⟩) s := by kernel_rfl
theorem fs_urls_Split : CtrsOk Try.prog [(70, [c_urls_Plain]), (71, [c_urls_cutter_scheme]), (72, [c_urls_cutter_mark]), (73, [c_urls_cutter_query]), (74, [c_urls_cutter_host])] := ⟨ctr1 (ctr_urls_Plain), ctr1 (ctr_urls_cutter_scheme), ctr1 (ctr_urls_cutter_mark), ctr1 (ctr_urls_cutter_query), ctr1 (ctr_urls_cutter_host), trivial⟩
theorem vc_urls_Split (H : Nat → Entry) (v : c_urls_Split.inp.V) (r : (p : Pat) × p.V) (h : (c_urls_Split.body v).Sel H r) : fnVc (cx_urls_Split) an_urls_Split 0 Try.f55 c_urls_Split.inp [O_urls_Split] v (fun r' => r' = r) := by
  obtain ⟨s, ⟨⟩⟩ := v
  obtain ⟨h, rfl⟩ := h
  exact Eq.mpr (eq_urls_Split s _) (urls_Split.ok _ s h rfl)
theorem ctr_urls_Split : CtrOk Try.prog 55 c_urls_Split := ⟨⟨_, Try.func55, by kernel_rfl, by kernel_rfl⟩, fun H v r h => mk_ok _ (fs_urls_Split) (an := an_urls_Split) (outs := [O_urls_Split]) Try.func55 (by decide) (vc_urls_Split H v r h)⟩
abbrev I_urls_Scheme : Pat := { slots := [(0, .ce (.v .str))], ents := [] }
abbrev O_urls_Scheme : Pat := { slots := [(0, .ce (.v .str)), (1, .ce (.v .bool))], ents := [] }
def c_urls_Scheme : Ctr := { k0 := 0, inp := I_urls_Scheme, body := fun v => .need (Sp.schemeP.pre v.1) (.ret ⟨O_urls_Scheme, ((Sp.schemeP v.1).1, (Sp.schemeP v.1).2, ())⟩), ex := 0 }
def an_urls_Scheme : Ann := []
def cx_urls_Scheme : Cx := mkCx [(55, [c_urls_Split])]
theorem eq_urls_Scheme (s : Str) (R : ((p : Pat) × p.V) → Prop) : fnVc (cx_urls_Scheme) an_urls_Scheme 0 Try.f36 I_urls_Scheme [O_urls_Scheme] (s, ()) R = urls_Scheme.vc (fun y0 y1 => R ⟨O_urls_Scheme, (y0, y1, ())⟩) s := by kernel_rfl
theorem fs_urls_Scheme : CtrsOk Try.prog [(55, [c_urls_Split])] := ⟨ctr1 (ctr_urls_Split), trivial⟩
theorem vc_urls_Scheme (H : Nat → Entry) (v : c_urls_Scheme.inp.V) (r : (p : Pat) × p.V) (h : (c_urls_Scheme.body v).Sel H r) : fnVc (cx_urls_Scheme) an_urls_Scheme 0 Try.f36 c_urls_Scheme.inp [O_urls_Scheme] v (fun r' => r' = r) := by
  obtain ⟨s, ⟨⟩⟩ := v
  obtain ⟨h, rfl⟩ := h
  exact Eq.mpr (eq_urls_Scheme s _) (urls_Scheme.ok _ s h rfl)
theorem ctr_urls_Scheme : CtrOk Try.prog 36 c_urls_Scheme := ⟨⟨_, Try.func36, by kernel_rfl, by kernel_rfl⟩, fun H v r h => mk_ok _ (fs_urls_Scheme) (an := an_urls_Scheme) (outs := [O_urls_Scheme]) Try.func36 (by decide) (vc_urls_Scheme H v r h)⟩
abbrev I_slices_Index_string_string : Pat := { slots := [(0, .ce (.v (.sl .str))), (1, .ce (.v .str))], ents := [] }
abbrev O_slices_Index_string_string : Pat := { slots := [(0, .ce (.v (.int .i64)))], ents := [] }
def c_slices_Index_string_string : Ctr := { k0 := 0, inp := I_slices_Index_string_string, body := fun v => .need (Sp.idxS.pre v.1 v.2.1) (.ret ⟨O_slices_Index_string_string, ((Sp.idxS v.1 v.2.1), ())⟩), ex := 0 }
def an_slices_Index_string_string : Ann := [(2, { slots := [(0, .ce (.v (.sl .str))), (1, .ce (.v .str)), (7, .ce (.v (.int .i64))), (8, .ce (.v (.int .i64)))], ents := [] })]
def cx_slices_Index_string_string : Cx := mkCx []
theorem eq_slices_Index_string_string (s : (List Str)) (v : Str) (R : ((p : Pat) × p.V) → Prop) : fnVc (cx_slices_Index_string_string) an_slices_Index_string_string 0 Try.f64 I_slices_Index_string_string [O_slices_Index_string_string] (s, v, ()) R = slices_Index_string_string.vc (fun y0 => R ⟨O_slices_Index_string_string, (y0, ())⟩) s v := by kernel_rfl
theorem fs_slices_Index_string_string : CtrsOk Try.prog [] := trivial
theorem vc_slices_Index_string_string (H : Nat → Entry) (v : c_slices_Index_string_string.inp.V) (r : (p : Pat) × p.V) (h : (c_slices_Index_string_string.body v).Sel H r) : fnVc (cx_slices_Index_string_string) an_slices_Index_string_string 0 Try.f64 c_slices_Index_string_string.inp [O_slices_Index_string_string] v (fun r' => r' = r) := by
  obtain ⟨s, v, ⟨⟩⟩ := v
  obtain ⟨h, rfl⟩ := h
  exact Eq.mpr (eq_slices_Index_string_string s v _) (slices_Index_string_string.ok _ s v h rfl)
theorem ctr_slices_Index_string_string : CtrOk Try.prog 64 c_slices_Index_string_string := ⟨⟨_, Try.func64, by kernel_rfl, by kernel_rfl⟩, fun H v r h => mk_ok _ (fs_slices_Index_string_string) (an := an_slices_Index_string_string) (outs := [O_slices_Index_string_string]) Try.func64 (by decide) (vc_slices_Index_string_string H v r h)⟩
abbrev I_slices_Contains_string_string : Pat := { slots := [(0, .ce (.v (.sl .str))), (1, .ce (.v .str))], ents := [] }
abbrev O_slices_Contains_string_string : Pat := { slots := [(0, .ce (.v .bool))], ents := [] }
def c_slices_Contains_string_string : Ctr := { k0 := 0, inp := I_slices_Contains_string_string, body := fun v => .need (Sp.idxS.pre v.1 v.2.1) (.ret ⟨O_slices_Contains_string_string, ((Sp.hasS v.1 v.2.1), ())⟩), ex := 0 }
def an_slices_Contains_string_string : Ann := []
def cx_slices_Contains_string_string : Cx := mkCx [(64, [c_slices_Index_string_string])]
theorem eq_slices_Contains_string_string (s : (List Str)) (v : Str) (R : ((p : Pat) × p.V) → Prop) : fnVc (cx_slices_Contains_string_string) an_slices_Contains_string_string 0 Try.f51 I_slices_Contains_string_string [O_slices_Contains_string_string] (s, v, ()) R = slices_Contains_string_string.vc (fun y0 => R ⟨O_slices_Contains_string_string, (y0, ())⟩) s v := by kernel_rfl
theorem fs_slices_Contains_string_string : CtrsOk Try.prog [(64, [c_slices_Index_string_string])] := ⟨ctr1 (ctr_slices_Index_string_string), trivial⟩
theorem vc_slices_Contains_string_string (H : Nat → Entry) (v : c_slices_Contains_string_string.inp.V) (r : (p : Pat) × p.V) (h : (c_slices_Contains_string_string.body v).Sel H r) : fnVc (cx_slices_Contains_string_string) an_slices_Contains_string_string 0 Try.f51 c_slices_Contains_string_string.inp [O_slices_Contains_string_string] v (fun r' => r' = r) := by
  obtain ⟨s, v, ⟨⟩⟩ := v
  obtain ⟨h, rfl⟩ := h
  exact Eq.mpr (eq_slices_Contains_string_string s v _) (slices_Contains_string_string.ok _ s v h rfl)
theorem ctr_slices_Contains_string_string : CtrOk Try.prog 51 c_slices_Contains_string_string := ⟨⟨_, Try.func51, by kernel_rfl, by kernel_rfl⟩, fun H v r h => mk_ok _ (fs_slices_Contains_string_string) (an := an_slices_Contains_string_string) (outs := [O_slices_Contains_string_string]) Try.func51 (by decide) (vc_slices_Contains_string_string H v r h)⟩
abbrev I_urls_Safe : Pat := { slots := [(0, .ce (.v .str)), (1, .ce (.v (.sl .str)))], ents := [] }
abbrev O_urls_Safe : Pat := { slots := [(0, .ce (.v .bool))], ents := [] }
def c_urls_Safe : Ctr := { k0 := 0, inp := I_urls_Safe, body := fun v => .need (Sp.safeP.pre v.1 v.2.1) (.ret ⟨O_urls_Safe, ((Sp.safeP v.1 v.2.1), ())⟩), ex := 0 }
def an_urls_Safe : Ann := []
def cx_urls_Safe : Cx := mkCx [(36, [c_urls_Scheme]), (51, [c_slices_Contains_string_string])]
theorem eq_urls_Safe (s : Str) (schemes : (List Str)) (R : ((p : Pat) × p.V) → Prop) : fnVc (cx_urls_Safe) an_urls_Safe 0 Try.f52 I_urls_Safe [O_urls_Safe] (s, schemes, ()) R = urls_Safe.vc (fun y0 => R ⟨O_urls_Safe, (y0, ())⟩) s schemes := by kernel_rfl
theorem fs_urls_Safe : CtrsOk Try.prog [(36, [c_urls_Scheme]), (51, [c_slices_Contains_string_string])] := ⟨ctr1 (ctr_urls_Scheme), ctr1 (ctr_slices_Contains_string_string), trivial⟩
theorem vc_urls_Safe (H : Nat → Entry) (v : c_urls_Safe.inp.V) (r : (p : Pat) × p.V) (h : (c_urls_Safe.body v).Sel H r) : fnVc (cx_urls_Safe) an_urls_Safe 0 Try.f52 c_urls_Safe.inp [O_urls_Safe] v (fun r' => r' = r) := by
  obtain ⟨s, schemes, ⟨⟩⟩ := v
  obtain ⟨h, rfl⟩ := h
  exact Eq.mpr (eq_urls_Safe s schemes _) (urls_Safe.ok _ s schemes h rfl)
theorem ctr_urls_Safe : CtrOk Try.prog 52 c_urls_Safe := ⟨⟨_, Try.func52, by kernel_rfl, by kernel_rfl⟩, fun H v r h => mk_ok _ (fs_urls_Safe) (an := an_urls_Safe) (outs := [O_urls_Safe]) Try.func52 (by decide) (vc_urls_Safe H v r h)⟩
abbrev I_rectoref15_scheme : Pat := { slots := [(0, .ce (.v .str))], ents := [] }
abbrev O_rectoref15_scheme : Pat := { slots := [(0, .ce (.v (.int .i64)))], ents := [] }
def c_rectoref15_scheme : Ctr := { k0 := 0, inp := I_rectoref15_scheme, body := fun v => .need (Sp.schN.pre v.1) (.ret ⟨O_rectoref15_scheme, ((Sp.schN v.1), ())⟩), ex := 0 }
def an_rectoref15_scheme : Ann := [(2, { slots := [(0, .ce (.v .str)), (3, .ce (.v (.int .i64)))], ents := [] })]
def cx_rectoref15_scheme : Cx := mkCx [(81, [c_rectoref03_Letter]), (82, [c_rectoref03_Digit])]
theorem eq_rectoref15_scheme (s : Str) (R : ((p : Pat) × p.V) → Prop) : fnVc (cx_rectoref15_scheme) an_rectoref15_scheme 0 Try.f66 I_rectoref15_scheme [O_rectoref15_scheme] (s, ()) R = rectoref15_scheme.vc (fun y0 => R ⟨O_rectoref15_scheme, (y0, ())⟩) s := by kernel_rfl
theorem fs_rectoref15_scheme : CtrsOk Try.prog [(81, [c_rectoref03_Letter]), (82, [c_rectoref03_Digit])] := ⟨ctr1 (ctr_rectoref03_Letter), ctr1 (ctr_rectoref03_Digit), trivial⟩
theorem vc_rectoref15_scheme (H : Nat → Entry) (v : c_rectoref15_scheme.inp.V) (r : (p : Pat) × p.V) (h : (c_rectoref15_scheme.body v).Sel H r) : fnVc (cx_rectoref15_scheme) an_rectoref15_scheme 0 Try.f66 c_rectoref15_scheme.inp [O_rectoref15_scheme] v (fun r' => r' = r) := by
  obtain ⟨s, ⟨⟩⟩ := v
  obtain ⟨h, rfl⟩ := h
  exact Eq.mpr (eq_rectoref15_scheme s _) (rectoref15_scheme.ok _ s h rfl)
theorem ctr_rectoref15_scheme : CtrOk Try.prog 66 c_rectoref15_scheme := ⟨⟨_, Try.func66, by kernel_rfl, by kernel_rfl⟩, fun H v r h => mk_ok _ (fs_rectoref15_scheme) (an := an_rectoref15_scheme) (outs := [O_rectoref15_scheme]) Try.func66 (by decide) (vc_rectoref15_scheme H v r h)⟩
abbrev I_rectoref15_first : Pat := { slots := [(0, .ce (.v .str)), (1, .ce (.v (.int .u8))), (2, .ce (.v (.int .u8)))], ents := [] }
abbrev O_rectoref15_first : Pat := { slots := [(0, .ce (.v (.int .i64)))], ents := [] }
def c_rectoref15_first : Ctr := { k0 := 0, inp := I_rectoref15_first, body := fun v => .need (Sp.firstU.pre v.1 v.2.1 v.2.2.1) (.ret ⟨O_rectoref15_first, ((Sp.firstU v.1 v.2.1 v.2.2.1), ())⟩), ex := 0 }
def an_rectoref15_first : Ann := [(2, { slots := [(0, .ce (.v .str)), (1, .ce (.v (.int .u8))), (2, .ce (.v (.int .u8))), (7, .ce (.v (.int .i64)))], ents := [] })]
def cx_rectoref15_first : Cx := mkCx []
theorem eq_rectoref15_first (s : Str) (a : Int) (b : Int) (R : ((p : Pat) × p.V) → Prop) : fnVc (cx_rectoref15_first) an_rectoref15_first 0 Try.f67 I_rectoref15_first [O_rectoref15_first] (s, a, b, ()) R = rectoref15_first.vc (fun y0 => R ⟨O_rectoref15_first, (y0, ())⟩) s a b := by kernel_rfl
theorem fs_rectoref15_first : CtrsOk Try.prog [] := trivial
theorem vc_rectoref15_first (H : Nat → Entry) (v : c_rectoref15_first.inp.V) (r : (p : Pat) × p.V) (h : (c_rectoref15_first.body v).Sel H r) : fnVc (cx_rectoref15_first) an_rectoref15_first 0 Try.f67 c_rectoref15_first.inp [O_rectoref15_first] v (fun r' => r' = r) := by
  obtain ⟨s, a, b, ⟨⟩⟩ := v
  obtain ⟨h, rfl⟩ := h
  exact Eq.mpr (eq_rectoref15_first s a b _) (rectoref15_first.ok _ s a b h rfl)
theorem ctr_rectoref15_first : CtrOk Try.prog 67 c_rectoref15_first := ⟨⟨_, Try.func67, by kernel_rfl, by kernel_rfl⟩, fun H v r h => mk_ok _ (fs_rectoref15_first) (an := an_rectoref15_first) (outs := [O_rectoref15_first]) Try.func67 (by decide) (vc_rectoref15_first H v r h)⟩
abbrev I_rectoref15_Split : Pat := { slots := [(0, .ce (.v .str))], ents := [] }
abbrev O_rectoref15_Split : Pat := { slots := [(0, .ag (.pair .str (.pair .str (.pair .str (.pair .str (.pair .str (.pair .bool (.pair .bool (.pair .bool .bool)))))))))], ents := [] }
def c_rectoref15_Split : Ctr := { k0 := 0, inp := I_rectoref15_Split, body := fun v => .need (Sp.splitP.pre v.1) (.ret ⟨O_rectoref15_Split, ((Sp.splitP v.1), ())⟩), ex := 0 }
def an_rectoref15_Split : Ann := []
def cx_rectoref15_Split : Cx := mkCx [(65, [c_rectoref15_Plain]), (66, [c_rectoref15_scheme]), (28, [c_rectoref03_Lower]), (67, [c_rectoref15_first])]
theorem eq_rectoref15_Split (s : Str) (R : ((p : Pat) × p.V) → Prop) : fnVc (cx_rectoref15_Split) an_rectoref15_Split 0 Try.f53 I_rectoref15_Split [O_rectoref15_Split] (s, ()) R = rectoref15_Split.vc (fun y0 => R ⟨O_rectoref15_Split, (y0, ())⟩) s := by kernel_rfl
theorem fs_rectoref15_Split : CtrsOk Try.prog [(65, [c_rectoref15_Plain]), (66, [c_rectoref15_scheme]), (28, [c_rectoref03_Lower]), (67, [c_rectoref15_first])] := ⟨ctr1 (ctr_rectoref15_Plain), ctr1 (ctr_rectoref15_scheme), ctr1 (ctr_rectoref03_Lower), ctr1 (ctr_rectoref15_first), trivial⟩
theorem vc_rectoref15_Split (H : Nat → Entry) (v : c_rectoref15_Split.inp.V) (r : (p : Pat) × p.V) (h : (c_rectoref15_Split.body v).Sel H r) : fnVc (cx_rectoref15_Split) an_rectoref15_Split 0 Try.f53 c_rectoref15_Split.inp [O_rectoref15_Split] v (fun r' => r' = r) := by
  obtain ⟨s, ⟨⟩⟩ := v
  obtain ⟨h, rfl⟩ := h
  exact Eq.mpr (eq_rectoref15_Split s _) (rectoref15_Split.ok _ s h rfl)
theorem ctr_rectoref15_Split : CtrOk Try.prog 53 c_rectoref15_Split := ⟨⟨_, Try.func53, by kernel_rfl, by kernel_rfl⟩, fun H v r h => mk_ok _ (fs_rectoref15_Split) (an := an_rectoref15_Split) (outs := [O_rectoref15_Split]) Try.func53 (by decide) (vc_rectoref15_Split H v r h)⟩
abbrev I_rectoref07_In : Pat := { slots := [(0, .ce (.v .str)), (1, .ce (.v (.sl .str)))], ents := [] }
abbrev O_rectoref07_In : Pat := { slots := [(0, .ce (.v .bool))], ents := [] }
def c_rectoref07_In : Ctr := { k0 := 0, inp := I_rectoref07_In, body := fun v => .need (Sp.inS.pre v.1 v.2.1) (.ret ⟨O_rectoref07_In, ((Sp.inS v.1 v.2.1), ())⟩), ex := 0 }
def an_rectoref07_In : Ann := [(2, { slots := [(0, .ce (.v .str)), (7, .ce (.v (.sl .str))), (8, .ce (.v (.int .i64))), (9, .ce (.v (.int .i64)))], ents := [] })]
def cx_rectoref07_In : Cx := mkCx []
theorem eq_rectoref07_In (name : Str) (l : (List Str)) (R : ((p : Pat) × p.V) → Prop) : fnVc (cx_rectoref07_In) an_rectoref07_In 0 Try.f32 I_rectoref07_In [O_rectoref07_In] (name, l, ()) R = rectoref07_In.vc (fun y0 => R ⟨O_rectoref07_In, (y0, ())⟩) name l := by kernel_rfl
theorem fs_rectoref07_In : CtrsOk Try.prog [] := trivial
theorem vc_rectoref07_In (H : Nat → Entry) (v : c_rectoref07_In.inp.V) (r : (p : Pat) × p.V) (h : (c_rectoref07_In.body v).Sel H r) : fnVc (cx_rectoref07_In) an_rectoref07_In 0 Try.f32 c_rectoref07_In.inp [O_rectoref07_In] v (fun r' => r' = r) := by
  obtain ⟨name, l, ⟨⟩⟩ := v
  obtain ⟨h, rfl⟩ := h
  exact Eq.mpr (eq_rectoref07_In name l _) (rectoref07_In.ok _ name l h rfl)
theorem ctr_rectoref07_In : CtrOk Try.prog 32 c_rectoref07_In := ⟨⟨_, Try.func32, by kernel_rfl, by kernel_rfl⟩, fun H v r h => mk_ok _ (fs_rectoref07_In) (an := an_rectoref07_In) (outs := [O_rectoref07_In]) Try.func32 (by decide) (vc_rectoref07_In H v r h)⟩
abbrev I_rectoref15_Safe : Pat := { slots := [(0, .ce (.v .str)), (1, .ce (.v (.sl .str)))], ents := [] }
abbrev O_rectoref15_Safe : Pat := { slots := [(0, .ce (.v .bool))], ents := [] }
def c_rectoref15_Safe : Ctr := { k0 := 0, inp := I_rectoref15_Safe, body := fun v => .need (Sp.safeP.pre v.1 v.2.1) (.ret ⟨O_rectoref15_Safe, ((Sp.safeP v.1 v.2.1), ())⟩), ex := 0 }
def an_rectoref15_Safe : Ann := []
def cx_rectoref15_Safe : Cx := mkCx [(53, [c_rectoref15_Split]), (32, [c_rectoref07_In])]
theorem eq_rectoref15_Safe (s : Str) (schemes : (List Str)) (R : ((p : Pat) × p.V) → Prop) : fnVc (cx_rectoref15_Safe) an_rectoref15_Safe 0 Try.f33 I_rectoref15_Safe [O_rectoref15_Safe] (s, schemes, ()) R = rectoref15_Safe.vc (fun y0 => R ⟨O_rectoref15_Safe, (y0, ())⟩) s schemes := by kernel_rfl
theorem fs_rectoref15_Safe : CtrsOk Try.prog [(53, [c_rectoref15_Split]), (32, [c_rectoref07_In])] := ⟨ctr1 (ctr_rectoref15_Split), ctr1 (ctr_rectoref07_In), trivial⟩
theorem vc_rectoref15_Safe (H : Nat → Entry) (v : c_rectoref15_Safe.inp.V) (r : (p : Pat) × p.V) (h : (c_rectoref15_Safe.body v).Sel H r) : fnVc (cx_rectoref15_Safe) an_rectoref15_Safe 0 Try.f33 c_rectoref15_Safe.inp [O_rectoref15_Safe] v (fun r' => r' = r) := by
  obtain ⟨s, schemes, ⟨⟩⟩ := v
  obtain ⟨h, rfl⟩ := h
  exact Eq.mpr (eq_rectoref15_Safe s schemes _) (rectoref15_Safe.ok _ s schemes h rfl)
theorem ctr_rectoref15_Safe : CtrOk Try.prog 33 c_rectoref15_Safe := ⟨⟨_, Try.func33, by kernel_rfl, by kernel_rfl⟩, fun H v r h => mk_ok _ (fs_rectoref15_Safe) (an := an_rectoref15_Safe) (outs := [O_rectoref15_Safe]) Try.func33 (by decide) (vc_rectoref15_Safe H v r h)⟩
end Vs
