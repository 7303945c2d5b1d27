/- Functions held against what they tell. Written by a program of this session. -/
import Derived.Test.YtmciagbogdlcoaaGreatDoorPlU
import Derived.Test.YtmciagbogdlcoaaGreatDoorViThree
import Derived.Test.YtmciagbogdlcoaaGreatDoorTabz
import Derived.Test.YtmciagbogdlcoaaGreatDoorShz
set_option linter.unnecessarySimpa false
set_option linter.unusedVariables false
set_option linter.unusedSectionVars false
set_option linter.unusedSimpArgs false
set_option autoImplicit false
set_option linter.unusedVariables false
set_option maxRecDepth 100000
attribute [local irreducible] Vi.fnVc
namespace Vs
open Go Vi Go.Proofs
abbrev I_strings_Builder_String : Pat := { slots := [(0, .ce (.ptr 0 0))], ents := [.box 84 [.pn 0, .os 1], .row 5 (.int .u8)] }
abbrev O_strings_Builder_String : Pat := { slots := [(0, .ce (.v .str))], ents := [.box 84 [.pn 0, .z]] }
def c_strings_Builder_String : Ctr := { k0 := 1, inp := I_strings_Builder_String, body := fun v => .ret ⟨O_strings_Builder_String, (bytesOf v.1, ())⟩, ex := 0 }
def an_strings_Builder_String : Ann := []
def cx_strings_Builder_String : Cx := mkCx []
theorem eq_strings_Builder_String (x : (List Int)) (R : ((p : Pat) × p.V) → Prop) : fnVc (cx_strings_Builder_String) an_strings_Builder_String 1 Tryz.f49 I_strings_Builder_String [O_strings_Builder_String] (x, ()) R = strings_Builder_String.vc (fun y0 => R ⟨O_strings_Builder_String, (y0, ())⟩) x := by kernel_rfl
theorem fs_strings_Builder_String : CtrsOk Tryz.prog [] gl := trivial
theorem vc_strings_Builder_String (H : Nat → Entry) (v : c_strings_Builder_String.inp.V) (r : (p : Pat) × p.V) (h : (c_strings_Builder_String.body v).Sel H r) : fnVc (cx_strings_Builder_String) an_strings_Builder_String 1 Tryz.f49 c_strings_Builder_String.inp [O_strings_Builder_String] v (fun r' => r' = r) := by
  obtain ⟨x, ⟨⟩⟩ := v
  obtain rfl := h
  exact Eq.mpr (eq_strings_Builder_String x _) (strings_Builder_String.ok _ x  rfl)
theorem ctr_strings_Builder_String : CtrOk Tryz.prog 49 c_strings_Builder_String gl := ⟨⟨_, Tryz.func49, by kernel_rfl, by kernel_rfl⟩, fun H v r h => mk_ok _ (fs_strings_Builder_String) (an := an_strings_Builder_String) (outs := [O_strings_Builder_String]) Tryz.func49 (by decide) (vc_strings_Builder_String H v r h)⟩
abbrev I_strings_Builder_WriteByte : Pat := { slots := [(0, .ce (.ptr 0 0)), (1, .ce (.v (.int .u8)))], ents := [.box 84 [.pn 0, .os 1], .row 5 (.int .u8)] }
abbrev O_strings_Builder_WriteByte : Pat := { slots := [(0, .ce .z)], ents := [.box 84 [.pn 0, .os 1], .row 5 (.int .u8)] }
def c_strings_Builder_WriteByte : Ctr := { k0 := 1, inp := I_strings_Builder_WriteByte, body := fun v => .need (Sp.wb.pre v.2.1 v.1) (.ret ⟨O_strings_Builder_WriteByte, (Sp.wb v.2.1 v.1, ())⟩), ex := 0 }
def an_strings_Builder_WriteByte : Ann := []
def cx_strings_Builder_WriteByte : Cx := mkCx []
theorem eq_strings_Builder_WriteByte (b : Int) (x : (List Int)) (R : ((p : Pat) × p.V) → Prop) : fnVc (cx_strings_Builder_WriteByte) an_strings_Builder_WriteByte 1 Tryz.f107 I_strings_Builder_WriteByte [O_strings_Builder_WriteByte] (b, x, ()) R = strings_Builder_WriteByte.vc (fun y0 => R ⟨O_strings_Builder_WriteByte, (y0, ())⟩) b x := by kernel_rfl
theorem fs_strings_Builder_WriteByte : CtrsOk Tryz.prog [] gl := trivial
theorem vc_strings_Builder_WriteByte (H : Nat → Entry) (v : c_strings_Builder_WriteByte.inp.V) (r : (p : Pat) × p.V) (h : (c_strings_Builder_WriteByte.body v).Sel H r) : fnVc (cx_strings_Builder_WriteByte) an_strings_Builder_WriteByte 1 Tryz.f107 c_strings_Builder_WriteByte.inp [O_strings_Builder_WriteByte] v (fun r' => r' = r) := by
  obtain ⟨b, x, ⟨⟩⟩ := v
  obtain ⟨h, rfl⟩ := h
  exact Eq.mpr (eq_strings_Builder_WriteByte b x _) (strings_Builder_WriteByte.ok _ b x h rfl)
theorem ctr_strings_Builder_WriteByte : CtrOk Tryz.prog 107 c_strings_Builder_WriteByte gl := ⟨⟨_, Tryz.func107, by kernel_rfl, by kernel_rfl⟩, fun H v r h => mk_ok _ (fs_strings_Builder_WriteByte) (an := an_strings_Builder_WriteByte) (outs := [O_strings_Builder_WriteByte]) Tryz.func107 (by decide) (vc_strings_Builder_WriteByte H v r h)⟩
abbrev I_chars_Letter : Pat := { slots := [(0, .ce (.v (.int .u8)))], ents := [] }
abbrev O_chars_Letter : Pat := { slots := [(0, .ce (.v .bool))], ents := [] }
def c_chars_Letter : Ctr := { k0 := 0, inp := I_chars_Letter, body := fun v => .ret ⟨O_chars_Letter, ((Sp.letB v.1), ())⟩, ex := 0 }
def an_chars_Letter : Ann := []
def cx_chars_Letter : Cx := mkCx []
theorem eq_chars_Letter (b : Int) (R : ((p : Pat) × p.V) → Prop) : fnVc (cx_chars_Letter) an_chars_Letter 0 Tryz.f109 I_chars_Letter [O_chars_Letter] (b, ()) R = chars_Letter.vc (fun y0 => R ⟨O_chars_Letter, (y0, ())⟩) b := by kernel_rfl
theorem fs_chars_Letter : CtrsOk Tryz.prog [] gl := trivial
theorem vc_chars_Letter (H : Nat → Entry) (v : c_chars_Letter.inp.V) (r : (p : Pat) × p.V) (h : (c_chars_Letter.body v).Sel H r) : fnVc (cx_chars_Letter) an_chars_Letter 0 Tryz.f109 c_chars_Letter.inp [O_chars_Letter] v (fun r' => r' = r) := by
  obtain ⟨b, ⟨⟩⟩ := v
  obtain rfl := h
  exact Eq.mpr (eq_chars_Letter b _) (chars_Letter.ok _ b  rfl)
theorem ctr_chars_Letter : CtrOk Tryz.prog 109 c_chars_Letter gl := ⟨⟨_, Tryz.func109, by kernel_rfl, by kernel_rfl⟩, fun H v r h => mk_ok _ (fs_chars_Letter) (an := an_chars_Letter) (outs := [O_chars_Letter]) Tryz.func109 (by decide) (vc_chars_Letter H v r h)⟩
abbrev I_chars_Digit : Pat := { slots := [(0, .ce (.v (.int .u8)))], ents := [] }
abbrev O_chars_Digit : Pat := { slots := [(0, .ce (.v .bool))], ents := [] }
def c_chars_Digit : Ctr := { k0 := 0, inp := I_chars_Digit, body := fun v => .ret ⟨O_chars_Digit, ((Sp.digB v.1), ())⟩, ex := 0 }
def an_chars_Digit : Ann := []
def cx_chars_Digit : Cx := mkCx []
theorem eq_chars_Digit (b : Int) (R : ((p : Pat) × p.V) → Prop) : fnVc (cx_chars_Digit) an_chars_Digit 0 Tryz.f70 I_chars_Digit [O_chars_Digit] (b, ()) R = chars_Digit.vc (fun y0 => R ⟨O_chars_Digit, (y0, ())⟩) b := by kernel_rfl
theorem fs_chars_Digit : CtrsOk Tryz.prog [] gl := trivial
theorem vc_chars_Digit (H : Nat → Entry) (v : c_chars_Digit.inp.V) (r : (p : Pat) × p.V) (h : (c_chars_Digit.body v).Sel H r) : fnVc (cx_chars_Digit) an_chars_Digit 0 Tryz.f70 c_chars_Digit.inp [O_chars_Digit] v (fun r' => r' = r) := by
  obtain ⟨b, ⟨⟩⟩ := v
  obtain rfl := h
  exact Eq.mpr (eq_chars_Digit b _) (chars_Digit.ok _ b  rfl)
theorem ctr_chars_Digit : CtrOk Tryz.prog 70 c_chars_Digit gl := ⟨⟨_, Tryz.func70, by kernel_rfl, by kernel_rfl⟩, fun H v r h => mk_ok _ (fs_chars_Digit) (an := an_chars_Digit) (outs := [O_chars_Digit]) Tryz.func70 (by decide) (vc_chars_Digit H v r h)⟩
abbrev I_chars_Lower : Pat := { slots := [(0, .ce (.v .str))], ents := [] }
abbrev O_chars_Lower : Pat := { slots := [(0, .ce (.v .str))], ents := [] }
def c_chars_Lower : Ctr := { k0 := 0, inp := I_chars_Lower, body := fun v => .need (Sp.lower.pre v.1) (.ret ⟨O_chars_Lower, ((Sp.lower v.1), ())⟩), ex := 0 }
def an_chars_Lower : Ann := [(3, { slots := [(3, .ce (.os 0)), (8, .ce (.v (.int .i64))), (9, .ce (.v (.int .i64)))], ents := [.row 1000000005 (.int .u8)] })]
def cx_chars_Lower : Cx := mkCx []
theorem eq_chars_Lower (s : Str) (R : ((p : Pat) × p.V) → Prop) : fnVc (cx_chars_Lower) an_chars_Lower 0 Tryz.f36 I_chars_Lower [O_chars_Lower] (s, ()) R = chars_Lower.vc (fun y0 => R ⟨O_chars_Lower, (y0, ())⟩) s := by kernel_rfl
theorem fs_chars_Lower : CtrsOk Tryz.prog [] gl := trivial
theorem vc_chars_Lower (H : Nat → Entry) (v : c_chars_Lower.inp.V) (r : (p : Pat) × p.V) (h : (c_chars_Lower.body v).Sel H r) : fnVc (cx_chars_Lower) an_chars_Lower 0 Tryz.f36 c_chars_Lower.inp [O_chars_Lower] v (fun r' => r' = r) := by
  obtain ⟨s, ⟨⟩⟩ := v
  obtain ⟨h, rfl⟩ := h
  exact Eq.mpr (eq_chars_Lower s _) (chars_Lower.ok _ s h rfl)
theorem ctr_chars_Lower : CtrOk Tryz.prog 36 c_chars_Lower gl := ⟨⟨_, Tryz.func36, by kernel_rfl, by kernel_rfl⟩, fun H v r h => mk_ok _ (fs_chars_Lower) (an := an_chars_Lower) (outs := [O_chars_Lower]) Tryz.func36 (by decide) (vc_chars_Lower H v r h)⟩
abbrev I_urls_Plain : Pat := { slots := [(0, .ce (.v .str))], ents := [] }
abbrev O_urls_Plain : Pat := { slots := [(0, .ce (.v .str))], ents := [] }
def c_urls_Plain : Ctr := { k0 := 0, inp := I_urls_Plain, body := fun v => .need (Sp.plainU.pre v.1) (.ret ⟨O_urls_Plain, ((Sp.plainU v.1), ())⟩), ex := 0 }
def an_urls_Plain : Ann := [(1, { slots := [(0, .ce (.v .str))], ents := [] }), (3, { slots := [(0, .ce (.v .str))], ents := [] }), (7, { slots := [(0, .ce (.v .str)), (3, .ce (.ptr 0 0)), (30, .ce (.v (.int .i64))), (31, .ce (.v (.int .i64)))], ents := [.box 84 [.pn 0, .os 1], .row 5 (.int .u8)] })]
def cx_urls_Plain : Cx := mkCx [(107, [c_strings_Builder_WriteByte]), (49, [c_strings_Builder_String])]
theorem eq_urls_Plain (s : Str) (R : ((p : Pat) × p.V) → Prop) : fnVc (cx_urls_Plain) an_urls_Plain 0 Tryz.f97 I_urls_Plain [O_urls_Plain] (s, ()) R = urls_Plain.vc (fun y0 => R ⟨O_urls_Plain, (y0, ())⟩) s := by kernel_rfl
theorem fs_urls_Plain : CtrsOk Tryz.prog [(107, [c_strings_Builder_WriteByte]), (49, [c_strings_Builder_String])] gl := ⟨ctr1 (ctr_strings_Builder_WriteByte), ctr1 (ctr_strings_Builder_String), trivial⟩
theorem vc_urls_Plain (H : Nat → Entry) (v : c_urls_Plain.inp.V) (r : (p : Pat) × p.V) (h : (c_urls_Plain.body v).Sel H r) : fnVc (cx_urls_Plain) an_urls_Plain 0 Tryz.f97 c_urls_Plain.inp [O_urls_Plain] v (fun r' => r' = r) := by
  obtain ⟨s, ⟨⟩⟩ := v
  obtain ⟨h, rfl⟩ := h
  exact Eq.mpr (eq_urls_Plain s _) (urls_Plain.ok _ s h rfl)
theorem ctr_urls_Plain : CtrOk Tryz.prog 97 c_urls_Plain gl := ⟨⟨_, Tryz.func97, by kernel_rfl, by kernel_rfl⟩, fun H v r h => mk_ok _ (fs_urls_Plain) (an := an_urls_Plain) (outs := [O_urls_Plain]) Tryz.func97 (by decide) (vc_urls_Plain H v r h)⟩
abbrev I_internal_stringslite_IndexByte : Pat := { slots := [(0, .ce (.v .str)), (1, .ce (.v (.int .u8)))], ents := [] }
abbrev O_internal_stringslite_IndexByte : Pat := { slots := [(0, .ce (.v (.int .i64)))], ents := [] }
def c_internal_stringslite_IndexByte : Ctr := { k0 := 0, inp := I_internal_stringslite_IndexByte, body := fun v => .ret ⟨O_internal_stringslite_IndexByte, ((Sp.idxB v.1 v.2.1), ())⟩, ex := 2 }

theorem ctr_internal_stringslite_IndexByte : CtrOk Tryz.prog 117 c_internal_stringslite_IndexByte gl := ⟨⟨_, Tryz.func117, by kernel_rfl, by kernel_rfl⟩, fun H v r h => by
  obtain ⟨s, c, ⟨⟩⟩ := v
  subst h
  refine pure_ok fun F S μ w us hF hex hs => ?_
  have hex : us.length = 2 := hex.resolve_left (by decide)
  match us, hex with
  | [u0, u1], _ =>
  obtain ⟨rfl, hsl⟩ := str_of (hs (0, _) (.head _))
  obtain ⟨rfl, h1⟩ := int_of (hs (1, _) (.tail _ (.head _)))
  refine Calls.mono (Tryz.stringslite_IndexByte ⟨s.toArray⟩ c w) fun e w' he => ?_
  obtain ⟨rfl, rfl⟩ := he
  refine ⟨Go.RowKit.Below.refl _ _, fun F' S' μ' _ _ => ?_⟩
  rw [show (Lib.indexByte (⟨s.toArray⟩ : ByteArray).data.toList c.toNat.toUInt8) = Sp.idxB s c from Sp.idxB_lib s c h1.1 h1.2]
  exact pr_int (Sp.idxB_range s c hsl)⟩

abbrev I_strings_IndexByte : Pat := { slots := [(0, .ce (.v .str)), (1, .ce (.v (.int .u8)))], ents := [] }
abbrev O_strings_IndexByte : Pat := { slots := [(0, .ce (.v (.int .i64)))], ents := [] }
def c_strings_IndexByte : Ctr := { k0 := 0, inp := I_strings_IndexByte, body := fun v => .ret ⟨O_strings_IndexByte, ((Sp.idxB v.1 v.2.1), ())⟩, ex := 0 }
def an_strings_IndexByte : Ann := []
def cx_strings_IndexByte : Cx := mkCx [(117, [c_internal_stringslite_IndexByte])]
theorem eq_strings_IndexByte (s : Str) (c : Int) (R : ((p : Pat) × p.V) → Prop) : fnVc (cx_strings_IndexByte) an_strings_IndexByte 0 Tryz.f108 I_strings_IndexByte [O_strings_IndexByte] (s, c, ()) R = strings_IndexByte.vc (fun y0 => R ⟨O_strings_IndexByte, (y0, ())⟩) s c := by kernel_rfl
theorem fs_strings_IndexByte : CtrsOk Tryz.prog [(117, [c_internal_stringslite_IndexByte])] gl := ⟨ctr1 (ctr_internal_stringslite_IndexByte), trivial⟩
theorem vc_strings_IndexByte (H : Nat → Entry) (v : c_strings_IndexByte.inp.V) (r : (p : Pat) × p.V) (h : (c_strings_IndexByte.body v).Sel H r) : fnVc (cx_strings_IndexByte) an_strings_IndexByte 0 Tryz.f108 c_strings_IndexByte.inp [O_strings_IndexByte] v (fun r' => r' = r) := by
  obtain ⟨s, c, ⟨⟩⟩ := v
  obtain rfl := h
  exact Eq.mpr (eq_strings_IndexByte s c _) (strings_IndexByte.ok _ s c  rfl)
theorem ctr_strings_IndexByte : CtrOk Tryz.prog 108 c_strings_IndexByte gl := ⟨⟨_, Tryz.func108, by kernel_rfl, by kernel_rfl⟩, fun H v r h => mk_ok _ (fs_strings_IndexByte) (an := an_strings_IndexByte) (outs := [O_strings_IndexByte]) Tryz.func108 (by decide) (vc_strings_IndexByte H v r h)⟩
abbrev I_internal_stringslite_Index : Pat := { slots := [(0, .ce (.v .str)), (1, .ce (.v .str))], ents := [] }
abbrev O_internal_stringslite_Index : Pat := { slots := [(0, .ce (.v (.int .i64)))], ents := [] }
def c_internal_stringslite_Index : Ctr := { k0 := 0, inp := I_internal_stringslite_Index, body := fun v => .need (Sp.idx1.pre v.1 v.2.1) (.ret ⟨O_internal_stringslite_Index, ((Sp.idx1 v.1 v.2.1), ())⟩), ex := 0 }
def an_internal_stringslite_Index : Ann := [(15, { slots := [(0, .ce (.v .str)), (1, .ce (.v .str)), (5, .ce (.v (.int .i64))), (6, .ce (.v (.int .u8))), (7, .ce (.v (.int .u8))), (8, .ce (.v (.int .i64))), (9, .ce (.v (.int .i64))), (10, .ce (.v (.int .i64)))], ents := [] })]
def cx_internal_stringslite_Index : Cx := mkCx [(117, [c_internal_stringslite_IndexByte])]
theorem eq_internal_stringslite_Index (t : Str) (o : Str) (R : ((p : Pat) × p.V) → Prop) : fnVc (cx_internal_stringslite_Index) an_internal_stringslite_Index 0 Tryz.f115 I_internal_stringslite_Index [O_internal_stringslite_Index] (t, o, ()) R = internal_stringslite_Index.vc (fun y0 => R ⟨O_internal_stringslite_Index, (y0, ())⟩) t o := by kernel_rfl
theorem fs_internal_stringslite_Index : CtrsOk Tryz.prog [(117, [c_internal_stringslite_IndexByte])] gl := ⟨ctr1 (ctr_internal_stringslite_IndexByte), trivial⟩
theorem vc_internal_stringslite_Index (H : Nat → Entry) (v : c_internal_stringslite_Index.inp.V) (r : (p : Pat) × p.V) (h : (c_internal_stringslite_Index.body v).Sel H r) : fnVc (cx_internal_stringslite_Index) an_internal_stringslite_Index 0 Tryz.f115 c_internal_stringslite_Index.inp [O_internal_stringslite_Index] v (fun r' => r' = r) := by
  obtain ⟨t, o, ⟨⟩⟩ := v
  obtain ⟨h, rfl⟩ := h
  exact Eq.mpr (eq_internal_stringslite_Index t o _) (internal_stringslite_Index.ok _ t o h rfl)
theorem ctr_internal_stringslite_Index : CtrOk Tryz.prog 115 c_internal_stringslite_Index gl := ⟨⟨_, Tryz.func115, by kernel_rfl, by kernel_rfl⟩, fun H v r h => mk_ok _ (fs_internal_stringslite_Index) (an := an_internal_stringslite_Index) (outs := [O_internal_stringslite_Index]) Tryz.func115 (by decide) (vc_internal_stringslite_Index H v r h)⟩
abbrev I_internal_stringslite_Cut : Pat := { slots := [(0, .ce (.v .str)), (1, .ce (.v .str))], ents := [] }
abbrev O_internal_stringslite_Cut : Pat := { slots := [(0, .ce (.v .str)), (1, .ce (.v .str)), (2, .ce (.v .bool))], ents := [] }
def c_internal_stringslite_Cut : Ctr := { k0 := 0, inp := I_internal_stringslite_Cut, body := fun v => .need (Sp.cut1.pre v.1 v.2.1) (.ret ⟨O_internal_stringslite_Cut, ((Sp.cut1 v.1 v.2.1).1, (Sp.cut1 v.1 v.2.1).2.1, (Sp.cut1 v.1 v.2.1).2.2, ())⟩), ex := 0 }
def an_internal_stringslite_Cut : Ann := []
def cx_internal_stringslite_Cut : Cx := mkCx [(115, [c_internal_stringslite_Index])]
theorem eq_internal_stringslite_Cut (s : Str) (sep : Str) (R : ((p : Pat) × p.V) → Prop) : fnVc (cx_internal_stringslite_Cut) an_internal_stringslite_Cut 0 Tryz.f118 I_internal_stringslite_Cut [O_internal_stringslite_Cut] (s, sep, ()) R = internal_stringslite_Cut.vc (fun y0 y1 y2 => R ⟨O_internal_stringslite_Cut, (y0, y1, y2, ())⟩) s sep := by kernel_rfl
theorem fs_internal_stringslite_Cut : CtrsOk Tryz.prog [(115, [c_internal_stringslite_Index])] gl := ⟨ctr1 (ctr_internal_stringslite_Index), trivial⟩
theorem vc_internal_stringslite_Cut (H : Nat → Entry) (v : c_internal_stringslite_Cut.inp.V) (r : (p : Pat) × p.V) (h : (c_internal_stringslite_Cut.body v).Sel H r) : fnVc (cx_internal_stringslite_Cut) an_internal_stringslite_Cut 0 Tryz.f118 c_internal_stringslite_Cut.inp [O_internal_stringslite_Cut] v (fun r' => r' = r) := by
  obtain ⟨s, sep, ⟨⟩⟩ := v
  obtain ⟨h, rfl⟩ := h
  exact Eq.mpr (eq_internal_stringslite_Cut s sep _) (internal_stringslite_Cut.ok _ s sep h rfl)
theorem ctr_internal_stringslite_Cut : CtrOk Tryz.prog 118 c_internal_stringslite_Cut gl := ⟨⟨_, Tryz.func118, by kernel_rfl, by kernel_rfl⟩, fun H v r h => mk_ok _ (fs_internal_stringslite_Cut) (an := an_internal_stringslite_Cut) (outs := [O_internal_stringslite_Cut]) Tryz.func118 (by decide) (vc_internal_stringslite_Cut H v r h)⟩
abbrev I_strings_Cut : Pat := { slots := [(0, .ce (.v .str)), (1, .ce (.v .str))], ents := [] }
abbrev O_strings_Cut : Pat := { slots := [(0, .ce (.v .str)), (1, .ce (.v .str)), (2, .ce (.v .bool))], ents := [] }
def c_strings_Cut : Ctr := { k0 := 0, inp := I_strings_Cut, body := fun v => .need (Sp.cut1.pre v.1 v.2.1) (.ret ⟨O_strings_Cut, ((Sp.cut1 v.1 v.2.1).1, (Sp.cut1 v.1 v.2.1).2.1, (Sp.cut1 v.1 v.2.1).2.2, ())⟩), ex := 0 }
def an_strings_Cut : Ann := []
def cx_strings_Cut : Cx := mkCx [(118, [c_internal_stringslite_Cut])]
theorem eq_strings_Cut (s : Str) (sep : Str) (R : ((p : Pat) × p.V) → Prop) : fnVc (cx_strings_Cut) an_strings_Cut 0 Tryz.f110 I_strings_Cut [O_strings_Cut] (s, sep, ()) R = strings_Cut.vc (fun y0 y1 y2 => R ⟨O_strings_Cut, (y0, y1, y2, ())⟩) s sep := by kernel_rfl
theorem fs_strings_Cut : CtrsOk Tryz.prog [(118, [c_internal_stringslite_Cut])] gl := ⟨ctr1 (ctr_internal_stringslite_Cut), trivial⟩
theorem vc_strings_Cut (H : Nat → Entry) (v : c_strings_Cut.inp.V) (r : (p : Pat) × p.V) (h : (c_strings_Cut.body v).Sel H r) : fnVc (cx_strings_Cut) an_strings_Cut 0 Tryz.f110 c_strings_Cut.inp [O_strings_Cut] v (fun r' => r' = r) := by
  obtain ⟨s, sep, ⟨⟩⟩ := v
  obtain ⟨h, rfl⟩ := h
  exact Eq.mpr (eq_strings_Cut s sep _) (strings_Cut.ok _ s sep h rfl)
theorem ctr_strings_Cut : CtrOk Tryz.prog 110 c_strings_Cut gl := ⟨⟨_, Tryz.func110, by kernel_rfl, by kernel_rfl⟩, fun H v r h => mk_ok _ (fs_strings_Cut) (an := an_strings_Cut) (outs := [O_strings_Cut]) Tryz.func110 (by decide) (vc_strings_Cut H v r h)⟩
abbrev I_internal_stringslite_HasPrefix : Pat := { slots := [(0, .ce (.v .str)), (1, .ce (.v .str))], ents := [] }
abbrev O_internal_stringslite_HasPrefix : Pat := { slots := [(0, .ce (.v .bool))], ents := [] }
def c_internal_stringslite_HasPrefix : Ctr := { k0 := 0, inp := I_internal_stringslite_HasPrefix, body := fun v => .need (Sp.preB.pre v.1 v.2.1) (.ret ⟨O_internal_stringslite_HasPrefix, ((Sp.preB v.1 v.2.1), ())⟩), ex := 0 }
def an_internal_stringslite_HasPrefix : Ann := []
def cx_internal_stringslite_HasPrefix : Cx := mkCx []
theorem eq_internal_stringslite_HasPrefix (s : Str) (prefix_ : Str) (R : ((p : Pat) × p.V) → Prop) : fnVc (cx_internal_stringslite_HasPrefix) an_internal_stringslite_HasPrefix 0 Tryz.f125 I_internal_stringslite_HasPrefix [O_internal_stringslite_HasPrefix] (s, prefix_, ()) R = internal_stringslite_HasPrefix.vc (fun y0 => R ⟨O_internal_stringslite_HasPrefix, (y0, ())⟩) s prefix_ := by kernel_rfl
theorem fs_internal_stringslite_HasPrefix : CtrsOk Tryz.prog [] gl := trivial
theorem vc_internal_stringslite_HasPrefix (H : Nat → Entry) (v : c_internal_stringslite_HasPrefix.inp.V) (r : (p : Pat) × p.V) (h : (c_internal_stringslite_HasPrefix.body v).Sel H r) : fnVc (cx_internal_stringslite_HasPrefix) an_internal_stringslite_HasPrefix 0 Tryz.f125 c_internal_stringslite_HasPrefix.inp [O_internal_stringslite_HasPrefix] v (fun r' => r' = r) := by
  obtain ⟨s, prefix_, ⟨⟩⟩ := v
  obtain ⟨h, rfl⟩ := h
  exact Eq.mpr (eq_internal_stringslite_HasPrefix s prefix_ _) (internal_stringslite_HasPrefix.ok _ s prefix_ h rfl)
theorem ctr_internal_stringslite_HasPrefix : CtrOk Tryz.prog 125 c_internal_stringslite_HasPrefix gl := ⟨⟨_, Tryz.func125, by kernel_rfl, by kernel_rfl⟩, fun H v r h => mk_ok _ (fs_internal_stringslite_HasPrefix) (an := an_internal_stringslite_HasPrefix) (outs := [O_internal_stringslite_HasPrefix]) Tryz.func125 (by decide) (vc_internal_stringslite_HasPrefix H v r h)⟩
abbrev I_internal_stringslite_CutPrefix : Pat := { slots := [(0, .ce (.v .str)), (1, .ce (.v .str))], ents := [] }
abbrev O_internal_stringslite_CutPrefix : Pat := { slots := [(0, .ce (.v .str)), (1, .ce (.v .bool))], ents := [] }
def c_internal_stringslite_CutPrefix : Ctr := { k0 := 0, inp := I_internal_stringslite_CutPrefix, body := fun v => .need (Sp.preB.pre v.1 v.2.1) (.ret ⟨O_internal_stringslite_CutPrefix, ((Sp.cutP v.1 v.2.1).1, (Sp.cutP v.1 v.2.1).2, ())⟩), ex := 0 }
def an_internal_stringslite_CutPrefix : Ann := []
def cx_internal_stringslite_CutPrefix : Cx := mkCx [(125, [c_internal_stringslite_HasPrefix])]
theorem eq_internal_stringslite_CutPrefix (s : Str) (prefix_ : Str) (R : ((p : Pat) × p.V) → Prop) : fnVc (cx_internal_stringslite_CutPrefix) an_internal_stringslite_CutPrefix 0 Tryz.f119 I_internal_stringslite_CutPrefix [O_internal_stringslite_CutPrefix] (s, prefix_, ()) R = internal_stringslite_CutPrefix.vc (fun y0 y1 => R ⟨O_internal_stringslite_CutPrefix, (y0, y1, ())⟩) s prefix_ := by kernel_rfl
theorem fs_internal_stringslite_CutPrefix : CtrsOk Tryz.prog [(125, [c_internal_stringslite_HasPrefix])] gl := ⟨ctr1 (ctr_internal_stringslite_HasPrefix), trivial⟩
theorem vc_internal_stringslite_CutPrefix (H : Nat → Entry) (v : c_internal_stringslite_CutPrefix.inp.V) (r : (p : Pat) × p.V) (h : (c_internal_stringslite_CutPrefix.body v).Sel H r) : fnVc (cx_internal_stringslite_CutPrefix) an_internal_stringslite_CutPrefix 0 Tryz.f119 c_internal_stringslite_CutPrefix.inp [O_internal_stringslite_CutPrefix] v (fun r' => r' = r) := by
  obtain ⟨s, prefix_, ⟨⟩⟩ := v
  obtain ⟨h, rfl⟩ := h
  exact Eq.mpr (eq_internal_stringslite_CutPrefix s prefix_ _) (internal_stringslite_CutPrefix.ok _ s prefix_ h rfl)
theorem ctr_internal_stringslite_CutPrefix : CtrOk Tryz.prog 119 c_internal_stringslite_CutPrefix gl := ⟨⟨_, Tryz.func119, by kernel_rfl, by kernel_rfl⟩, fun H v r h => mk_ok _ (fs_internal_stringslite_CutPrefix) (an := an_internal_stringslite_CutPrefix) (outs := [O_internal_stringslite_CutPrefix]) Tryz.func119 (by decide) (vc_internal_stringslite_CutPrefix H v r h)⟩
abbrev I_strings_CutPrefix : Pat := { slots := [(0, .ce (.v .str)), (1, .ce (.v .str))], ents := [] }
abbrev O_strings_CutPrefix : Pat := { slots := [(0, .ce (.v .str)), (1, .ce (.v .bool))], ents := [] }
def c_strings_CutPrefix : Ctr := { k0 := 0, inp := I_strings_CutPrefix, body := fun v => .need (Sp.preB.pre v.1 v.2.1) (.ret ⟨O_strings_CutPrefix, ((Sp.cutP v.1 v.2.1).1, (Sp.cutP v.1 v.2.1).2, ())⟩), ex := 0 }
def an_strings_CutPrefix : Ann := []
def cx_strings_CutPrefix : Cx := mkCx [(119, [c_internal_stringslite_CutPrefix])]
theorem eq_strings_CutPrefix (s : Str) (prefix_ : Str) (R : ((p : Pat) × p.V) → Prop) : fnVc (cx_strings_CutPrefix) an_strings_CutPrefix 0 Tryz.f111 I_strings_CutPrefix [O_strings_CutPrefix] (s, prefix_, ()) R = strings_CutPrefix.vc (fun y0 y1 => R ⟨O_strings_CutPrefix, (y0, y1, ())⟩) s prefix_ := by kernel_rfl
theorem fs_strings_CutPrefix : CtrsOk Tryz.prog [(119, [c_internal_stringslite_CutPrefix])] gl := ⟨ctr1 (ctr_internal_stringslite_CutPrefix), trivial⟩
theorem vc_strings_CutPrefix (H : Nat → Entry) (v : c_strings_CutPrefix.inp.V) (r : (p : Pat) × p.V) (h : (c_strings_CutPrefix.body v).Sel H r) : fnVc (cx_strings_CutPrefix) an_strings_CutPrefix 0 Tryz.f111 c_strings_CutPrefix.inp [O_strings_CutPrefix] v (fun r' => r' = r) := by
  obtain ⟨s, prefix_, ⟨⟩⟩ := v
  obtain ⟨h, rfl⟩ := h
  exact Eq.mpr (eq_strings_CutPrefix s prefix_ _) (strings_CutPrefix.ok _ s prefix_ h rfl)
theorem ctr_strings_CutPrefix : CtrOk Tryz.prog 111 c_strings_CutPrefix gl := ⟨⟨_, Tryz.func111, by kernel_rfl, by kernel_rfl⟩, fun H v r h => mk_ok _ (fs_strings_CutPrefix) (an := an_strings_CutPrefix) (outs := [O_strings_CutPrefix]) Tryz.func111 (by decide) (vc_strings_CutPrefix H v r h)⟩
abbrev I_urls_cutter_scheme : Pat := { slots := [(0, .ce (.ptr 0 0))], ents := [.box 141 [.v .str, .v .str, .v .str, .v .str, .v .str, .v .str, .v .bool, .v .bool, .v .bool, .v .bool]] }
abbrev O_urls_cutter_scheme : Pat := { slots := [], ents := [.box 141 [.v .str, .v .str, .v .str, .v .str, .v .str, .v .str, .v .bool, .v .bool, .v .bool, .v .bool]] }
def c_urls_cutter_scheme : Ctr := { k0 := 1, inp := I_urls_cutter_scheme, body := fun v => .need (Sp.small v.1) (.ret ⟨O_urls_cutter_scheme, (Sp.schRest v.1, Sp.schName v.1 v.2.1, v.2.2.1, v.2.2.2.1, v.2.2.2.2.1, v.2.2.2.2.2.1, Sp.schHas v.1 v.2.2.2.2.2.2.1, v.2.2.2.2.2.2.2.1, v.2.2.2.2.2.2.2.2.1, v.2.2.2.2.2.2.2.2.2.1, ())⟩), ex := 0 }
def an_urls_cutter_scheme : Ann := [(3, { slots := [(0, .ce (.ptr 0 0)), (2, .ce (.v (.int .i64))), (21, .ce (.v (.int .i64))), (22, .ce (.v (.int .i64)))], ents := [.box 141 [.v .str, .v .str, .v .str, .v .str, .v .str, .v .str, .v .bool, .v .bool, .v .bool, .v .bool]] })]
def cx_urls_cutter_scheme : Cx := mkCx [(108, [c_strings_IndexByte]), (109, [c_chars_Letter]), (70, [c_chars_Digit]), (36, [c_chars_Lower])]
theorem eq_urls_cutter_scheme (rest : Str) (sch : Str) (host : Str) (path : Str) (query : Str) (mark : Str) (hs : Bool) (hh : Bool) (hq : Bool) (hm : Bool) (R : ((p : Pat) × p.V) → Prop) : fnVc (cx_urls_cutter_scheme) an_urls_cutter_scheme 1 Tryz.f98 I_urls_cutter_scheme [O_urls_cutter_scheme] (rest, sch, host, path, query, mark, hs, hh, hq, hm, ()) R = urls_cutter_scheme.vc (fun y0 y1 y2 y3 y4 y5 y6 y7 y8 y9 => R ⟨O_urls_cutter_scheme, (y0, y1, y2, y3, y4, y5, y6, y7, y8, y9, ())⟩) rest sch host path query mark hs hh hq hm := by kernel_rfl
theorem fs_urls_cutter_scheme : CtrsOk Tryz.prog [(108, [c_strings_IndexByte]), (109, [c_chars_Letter]), (70, [c_chars_Digit]), (36, [c_chars_Lower])] gl := ⟨ctr1 (ctr_strings_IndexByte), ctr1 (ctr_chars_Letter), ctr1 (ctr_chars_Digit), ctr1 (ctr_chars_Lower), trivial⟩
theorem vc_urls_cutter_scheme (H : Nat → Entry) (v : c_urls_cutter_scheme.inp.V) (r : (p : Pat) × p.V) (h : (c_urls_cutter_scheme.body v).Sel H r) : fnVc (cx_urls_cutter_scheme) an_urls_cutter_scheme 1 Tryz.f98 c_urls_cutter_scheme.inp [O_urls_cutter_scheme] v (fun r' => r' = r) := by
  obtain ⟨rest, sch, host, path, query, mark, hs, hh, hq, hm, ⟨⟩⟩ := v
  obtain ⟨h, rfl⟩ := h
  exact Eq.mpr (eq_urls_cutter_scheme rest sch host path query mark hs hh hq hm _) (urls_cutter_scheme.ok _ rest sch host path query mark hs hh hq hm h rfl)
theorem ctr_urls_cutter_scheme : CtrOk Tryz.prog 98 c_urls_cutter_scheme gl := ⟨⟨_, Tryz.func98, by kernel_rfl, by kernel_rfl⟩, fun H v r h => mk_ok _ (fs_urls_cutter_scheme) (an := an_urls_cutter_scheme) (outs := [O_urls_cutter_scheme]) Tryz.func98 (by decide) (vc_urls_cutter_scheme H v r h)⟩
abbrev I_urls_cutter_mark : Pat := { slots := [(0, .ce (.ptr 0 0))], ents := [.box 141 [.v .str, .v .str, .v .str, .v .str, .v .str, .v .str, .v .bool, .v .bool, .v .bool, .v .bool]] }
abbrev O_urls_cutter_mark : Pat := { slots := [], ents := [.box 141 [.v .str, .v .str, .v .str, .v .str, .v .str, .v .str, .v .bool, .v .bool, .v .bool, .v .bool]] }
def c_urls_cutter_mark : Ctr := { k0 := 1, inp := I_urls_cutter_mark, body := fun v => .need (Sp.small v.1) (.ret ⟨O_urls_cutter_mark, ((Sp.cutC v.1 35).1, v.2.1, v.2.2.1, v.2.2.2.1, v.2.2.2.2.1, (Sp.cutC v.1 35).2.1, v.2.2.2.2.2.2.1, v.2.2.2.2.2.2.2.1, v.2.2.2.2.2.2.2.2.1, (Sp.cutC v.1 35).2.2, ())⟩), ex := 0 }
def an_urls_cutter_mark : Ann := []
def cx_urls_cutter_mark : Cx := mkCx [(110, [c_strings_Cut])]
theorem eq_urls_cutter_mark (rest : Str) (sch : Str) (host : Str) (path : Str) (query : Str) (mark : Str) (hs : Bool) (hh : Bool) (hq : Bool) (hm : Bool) (R : ((p : Pat) × p.V) → Prop) : fnVc (cx_urls_cutter_mark) an_urls_cutter_mark 1 Tryz.f99 I_urls_cutter_mark [O_urls_cutter_mark] (rest, sch, host, path, query, mark, hs, hh, hq, hm, ()) R = urls_cutter_mark.vc (fun y0 y1 y2 y3 y4 y5 y6 y7 y8 y9 => R ⟨O_urls_cutter_mark, (y0, y1, y2, y3, y4, y5, y6, y7, y8, y9, ())⟩) rest sch host path query mark hs hh hq hm := by kernel_rfl
theorem fs_urls_cutter_mark : CtrsOk Tryz.prog [(110, [c_strings_Cut])] gl := ⟨ctr1 (ctr_strings_Cut), trivial⟩
theorem vc_urls_cutter_mark (H : Nat → Entry) (v : c_urls_cutter_mark.inp.V) (r : (p : Pat) × p.V) (h : (c_urls_cutter_mark.body v).Sel H r) : fnVc (cx_urls_cutter_mark) an_urls_cutter_mark 1 Tryz.f99 c_urls_cutter_mark.inp [O_urls_cutter_mark] v (fun r' => r' = r) := by
  obtain ⟨rest, sch, host, path, query, mark, hs, hh, hq, hm, ⟨⟩⟩ := v
  obtain ⟨h, rfl⟩ := h
  exact Eq.mpr (eq_urls_cutter_mark rest sch host path query mark hs hh hq hm _) (urls_cutter_mark.ok _ rest sch host path query mark hs hh hq hm h rfl)
theorem ctr_urls_cutter_mark : CtrOk Tryz.prog 99 c_urls_cutter_mark gl := ⟨⟨_, Tryz.func99, by kernel_rfl, by kernel_rfl⟩, fun H v r h => mk_ok _ (fs_urls_cutter_mark) (an := an_urls_cutter_mark) (outs := [O_urls_cutter_mark]) Tryz.func99 (by decide) (vc_urls_cutter_mark H v r h)⟩
abbrev I_urls_cutter_query : Pat := { slots := [(0, .ce (.ptr 0 0))], ents := [.box 141 [.v .str, .v .str, .v .str, .v .str, .v .str, .v .str, .v .bool, .v .bool, .v .bool, .v .bool]] }
abbrev O_urls_cutter_query : Pat := { slots := [], ents := [.box 141 [.v .str, .v .str, .v .str, .v .str, .v .str, .v .str, .v .bool, .v .bool, .v .bool, .v .bool]] }
def c_urls_cutter_query : Ctr := { k0 := 1, inp := I_urls_cutter_query, body := fun v => .need (Sp.small v.1) (.ret ⟨O_urls_cutter_query, ((Sp.cutC v.1 63).1, v.2.1, v.2.2.1, v.2.2.2.1, (Sp.cutC v.1 63).2.1, v.2.2.2.2.2.1, v.2.2.2.2.2.2.1, v.2.2.2.2.2.2.2.1, (Sp.cutC v.1 63).2.2, v.2.2.2.2.2.2.2.2.2.1, ())⟩), ex := 0 }
def an_urls_cutter_query : Ann := []
def cx_urls_cutter_query : Cx := mkCx [(110, [c_strings_Cut])]
theorem eq_urls_cutter_query (rest : Str) (sch : Str) (host : Str) (path : Str) (query : Str) (mark : Str) (hs : Bool) (hh : Bool) (hq : Bool) (hm : Bool) (R : ((p : Pat) × p.V) → Prop) : fnVc (cx_urls_cutter_query) an_urls_cutter_query 1 Tryz.f100 I_urls_cutter_query [O_urls_cutter_query] (rest, sch, host, path, query, mark, hs, hh, hq, hm, ()) R = urls_cutter_query.vc (fun y0 y1 y2 y3 y4 y5 y6 y7 y8 y9 => R ⟨O_urls_cutter_query, (y0, y1, y2, y3, y4, y5, y6, y7, y8, y9, ())⟩) rest sch host path query mark hs hh hq hm := by kernel_rfl
theorem fs_urls_cutter_query : CtrsOk Tryz.prog [(110, [c_strings_Cut])] gl := ⟨ctr1 (ctr_strings_Cut), trivial⟩
theorem vc_urls_cutter_query (H : Nat → Entry) (v : c_urls_cutter_query.inp.V) (r : (p : Pat) × p.V) (h : (c_urls_cutter_query.body v).Sel H r) : fnVc (cx_urls_cutter_query) an_urls_cutter_query 1 Tryz.f100 c_urls_cutter_query.inp [O_urls_cutter_query] v (fun r' => r' = r) := by
  obtain ⟨rest, sch, host, path, query, mark, hs, hh, hq, hm, ⟨⟩⟩ := v
  obtain ⟨h, rfl⟩ := h
  exact Eq.mpr (eq_urls_cutter_query rest sch host path query mark hs hh hq hm _) (urls_cutter_query.ok _ rest sch host path query mark hs hh hq hm h rfl)
theorem ctr_urls_cutter_query : CtrOk Tryz.prog 100 c_urls_cutter_query gl := ⟨⟨_, Tryz.func100, by kernel_rfl, by kernel_rfl⟩, fun H v r h => mk_ok _ (fs_urls_cutter_query) (an := an_urls_cutter_query) (outs := [O_urls_cutter_query]) Tryz.func100 (by decide) (vc_urls_cutter_query H v r h)⟩
abbrev I_urls_cutter_host : Pat := { slots := [(0, .ce (.ptr 0 0))], ents := [.box 141 [.v .str, .v .str, .v .str, .v .str, .v .str, .v .str, .v .bool, .v .bool, .v .bool, .v .bool]] }
abbrev O_urls_cutter_host : Pat := { slots := [], ents := [.box 141 [.v .str, .v .str, .v .str, .v .str, .v .str, .v .str, .v .bool, .v .bool, .v .bool, .v .bool]] }
def c_urls_cutter_host : Ctr := { k0 := 1, inp := I_urls_cutter_host, body := fun v => .need (Sp.small v.1) (.ret ⟨O_urls_cutter_host, (Sp.hostRest v.1, v.2.1, Sp.hostName v.1 v.2.2.1, v.2.2.2.1, v.2.2.2.2.1, v.2.2.2.2.2.1, v.2.2.2.2.2.2.1, Sp.hostHas v.1 v.2.2.2.2.2.2.2.1, v.2.2.2.2.2.2.2.2.1, v.2.2.2.2.2.2.2.2.2.1, ())⟩), ex := 0 }
def an_urls_cutter_host : Ann := [(3, { slots := [(0, .ce (.ptr 0 0)), (2, .ce (.v .str)), (4, .ce (.v (.int .i64)))], ents := [.box 141 [.v .str, .v .str, .v .str, .v .str, .v .str, .v .str, .v .bool, .v .bool, .v .bool, .v .bool]] })]
def cx_urls_cutter_host : Cx := mkCx [(111, [c_strings_CutPrefix])]
theorem eq_urls_cutter_host (rest : Str) (sch : Str) (host : Str) (path : Str) (query : Str) (mark : Str) (hs : Bool) (hh : Bool) (hq : Bool) (hm : Bool) (R : ((p : Pat) × p.V) → Prop) : fnVc (cx_urls_cutter_host) an_urls_cutter_host 1 Tryz.f101 I_urls_cutter_host [O_urls_cutter_host] (rest, sch, host, path, query, mark, hs, hh, hq, hm, ()) R = urls_cutter_host.vc (fun y0 y1 y2 y3 y4 y5 y6 y7 y8 y9 => R ⟨O_urls_cutter_host, (y0, y1, y2, y3, y4, y5, y6, y7, y8, y9, ())⟩) rest sch host path query mark hs hh hq hm := by kernel_rfl
theorem fs_urls_cutter_host : CtrsOk Tryz.prog [(111, [c_strings_CutPrefix])] gl := ⟨ctr1 (ctr_strings_CutPrefix), trivial⟩
theorem vc_urls_cutter_host (H : Nat → Entry) (v : c_urls_cutter_host.inp.V) (r : (p : Pat) × p.V) (h : (c_urls_cutter_host.body v).Sel H r) : fnVc (cx_urls_cutter_host) an_urls_cutter_host 1 Tryz.f101 c_urls_cutter_host.inp [O_urls_cutter_host] v (fun r' => r' = r) := by
  obtain ⟨rest, sch, host, path, query, mark, hs, hh, hq, hm, ⟨⟩⟩ := v
  obtain ⟨h, rfl⟩ := h
  exact Eq.mpr (eq_urls_cutter_host rest sch host path query mark hs hh hq hm _) (urls_cutter_host.ok _ rest sch host path query mark hs hh hq hm h rfl)
theorem ctr_urls_cutter_host : CtrOk Tryz.prog 101 c_urls_cutter_host gl := ⟨⟨_, Tryz.func101, by kernel_rfl, by kernel_rfl⟩, fun H v r h => mk_ok _ (fs_urls_cutter_host) (an := an_urls_cutter_host) (outs := [O_urls_cutter_host]) Tryz.func101 (by decide) (vc_urls_cutter_host H v r h)⟩
abbrev I_urls_Split : Pat := { slots := [(0, .ce (.v .str))], ents := [] }
abbrev O_urls_Split : Pat := { slots := [(0, .ag (.pair .str (.pair .str (.pair .str (.pair .str (.pair .str (.pair .bool (.pair .bool (.pair .bool .bool)))))))))], ents := [] }
def c_urls_Split : Ctr := { k0 := 0, inp := I_urls_Split, body := fun v => .need (Sp.splitP.pre v.1) (.ret ⟨O_urls_Split, ((Sp.splitP v.1), ())⟩), ex := 0 }
def an_urls_Split : Ann := [(3, { slots := [(2, .ce (.ptr 0 0)), (3, .ce (.ptr 1 0)), (18, .sc [.fn 98 [1] [], .fn 99 [1] [], .fn 100 [1] [], .fn 101 [1] []]), (19, .ce (.v (.int .i64)))], ents := [.box 129 [.v .str, .v .str, .v .str, .v .str, .v .str, .v .bool, .v .bool, .v .bool, .v .bool], .box 141 [.v .str, .v .str, .v .str, .v .str, .v .str, .v .str, .v .bool, .v .bool, .v .bool, .v .bool]] })]
def cx_urls_Split : Cx := mkCx [(97, [c_urls_Plain]), (98, [c_urls_cutter_scheme]), (99, [c_urls_cutter_mark]), (100, [c_urls_cutter_query]), (101, [c_urls_cutter_host])]
theorem eq_urls_Split (s : Str) (R : ((p : Pat) × p.V) → Prop) : fnVc (cx_urls_Split) an_urls_Split 0 Tryz.f92 I_urls_Split [O_urls_Split] (s, ()) R = urls_Split.vc (fun y0 => R ⟨O_urls_Split, (y0, ())⟩) s := by kernel_rfl
theorem fs_urls_Split : CtrsOk Tryz.prog [(97, [c_urls_Plain]), (98, [c_urls_cutter_scheme]), (99, [c_urls_cutter_mark]), (100, [c_urls_cutter_query]), (101, [c_urls_cutter_host])] gl := ⟨ctr1 (ctr_urls_Plain), ctr1 (ctr_urls_cutter_scheme), ctr1 (ctr_urls_cutter_mark), ctr1 (ctr_urls_cutter_query), ctr1 (ctr_urls_cutter_host), trivial⟩
theorem vc_urls_Split (H : Nat → Entry) (v : c_urls_Split.inp.V) (r : (p : Pat) × p.V) (h : (c_urls_Split.body v).Sel H r) : fnVc (cx_urls_Split) an_urls_Split 0 Tryz.f92 c_urls_Split.inp [O_urls_Split] v (fun r' => r' = r) := by
  obtain ⟨s, ⟨⟩⟩ := v
  obtain ⟨h, rfl⟩ := h
  exact Eq.mpr (eq_urls_Split s _) (urls_Split.ok _ s h rfl)
theorem ctr_urls_Split : CtrOk Tryz.prog 92 c_urls_Split gl := ⟨⟨_, Tryz.func92, by kernel_rfl, by kernel_rfl⟩, fun H v r h => mk_ok _ (fs_urls_Split) (an := an_urls_Split) (outs := [O_urls_Split]) Tryz.func92 (by decide) (vc_urls_Split H v r h)⟩
abbrev I_urls_Scheme : Pat := { slots := [(0, .ce (.v .str))], ents := [] }
abbrev O_urls_Scheme : Pat := { slots := [(0, .ce (.v .str)), (1, .ce (.v .bool))], ents := [] }
def c_urls_Scheme : Ctr := { k0 := 0, inp := I_urls_Scheme, body := fun v => .need (Sp.schemeP.pre v.1) (.ret ⟨O_urls_Scheme, ((Sp.schemeP v.1).1, (Sp.schemeP v.1).2, ())⟩), ex := 0 }
def an_urls_Scheme : Ann := []
def cx_urls_Scheme : Cx := mkCx [(92, [c_urls_Split])]
theorem eq_urls_Scheme (s : Str) (R : ((p : Pat) × p.V) → Prop) : fnVc (cx_urls_Scheme) an_urls_Scheme 0 Tryz.f83 I_urls_Scheme [O_urls_Scheme] (s, ()) R = urls_Scheme.vc (fun y0 y1 => R ⟨O_urls_Scheme, (y0, y1, ())⟩) s := by kernel_rfl
theorem fs_urls_Scheme : CtrsOk Tryz.prog [(92, [c_urls_Split])] gl := ⟨ctr1 (ctr_urls_Split), trivial⟩
theorem vc_urls_Scheme (H : Nat → Entry) (v : c_urls_Scheme.inp.V) (r : (p : Pat) × p.V) (h : (c_urls_Scheme.body v).Sel H r) : fnVc (cx_urls_Scheme) an_urls_Scheme 0 Tryz.f83 c_urls_Scheme.inp [O_urls_Scheme] v (fun r' => r' = r) := by
  obtain ⟨s, ⟨⟩⟩ := v
  obtain ⟨h, rfl⟩ := h
  exact Eq.mpr (eq_urls_Scheme s _) (urls_Scheme.ok _ s h rfl)
theorem ctr_urls_Scheme : CtrOk Tryz.prog 83 c_urls_Scheme gl := ⟨⟨_, Tryz.func83, by kernel_rfl, by kernel_rfl⟩, fun H v r h => mk_ok _ (fs_urls_Scheme) (an := an_urls_Scheme) (outs := [O_urls_Scheme]) Tryz.func83 (by decide) (vc_urls_Scheme H v r h)⟩
abbrev I_slices_Index_string_string : Pat := { slots := [(0, .ce (.v (.sl .str))), (1, .ce (.v .str))], ents := [] }
abbrev O_slices_Index_string_string : Pat := { slots := [(0, .ce (.v (.int .i64)))], ents := [] }
def c_slices_Index_string_string : Ctr := { k0 := 0, inp := I_slices_Index_string_string, body := fun v => .need (Sp.idxS.pre v.1 v.2.1) (.ret ⟨O_slices_Index_string_string, ((Sp.idxS v.1 v.2.1), ())⟩), ex := 0 }
def an_slices_Index_string_string : Ann := [(2, { slots := [(0, .ce (.v (.sl .str))), (1, .ce (.v .str)), (7, .ce (.v (.int .i64))), (8, .ce (.v (.int .i64)))], ents := [] })]
def cx_slices_Index_string_string : Cx := mkCx []
theorem eq_slices_Index_string_string (s : (List Str)) (v : Str) (R : ((p : Pat) × p.V) → Prop) : fnVc (cx_slices_Index_string_string) an_slices_Index_string_string 0 Tryz.f65 I_slices_Index_string_string [O_slices_Index_string_string] (s, v, ()) R = slices_Index_string_string.vc (fun y0 => R ⟨O_slices_Index_string_string, (y0, ())⟩) s v := by kernel_rfl
theorem fs_slices_Index_string_string : CtrsOk Tryz.prog [] gl := trivial
theorem vc_slices_Index_string_string (H : Nat → Entry) (v : c_slices_Index_string_string.inp.V) (r : (p : Pat) × p.V) (h : (c_slices_Index_string_string.body v).Sel H r) : fnVc (cx_slices_Index_string_string) an_slices_Index_string_string 0 Tryz.f65 c_slices_Index_string_string.inp [O_slices_Index_string_string] v (fun r' => r' = r) := by
  obtain ⟨s, v, ⟨⟩⟩ := v
  obtain ⟨h, rfl⟩ := h
  exact Eq.mpr (eq_slices_Index_string_string s v _) (slices_Index_string_string.ok _ s v h rfl)
theorem ctr_slices_Index_string_string : CtrOk Tryz.prog 65 c_slices_Index_string_string gl := ⟨⟨_, Tryz.func65, by kernel_rfl, by kernel_rfl⟩, fun H v r h => mk_ok _ (fs_slices_Index_string_string) (an := an_slices_Index_string_string) (outs := [O_slices_Index_string_string]) Tryz.func65 (by decide) (vc_slices_Index_string_string H v r h)⟩
abbrev I_slices_Contains_string_string : Pat := { slots := [(0, .ce (.v (.sl .str))), (1, .ce (.v .str))], ents := [] }
abbrev O_slices_Contains_string_string : Pat := { slots := [(0, .ce (.v .bool))], ents := [] }
def c_slices_Contains_string_string : Ctr := { k0 := 0, inp := I_slices_Contains_string_string, body := fun v => .need (Sp.idxS.pre v.1 v.2.1) (.ret ⟨O_slices_Contains_string_string, ((Sp.hasS v.1 v.2.1), ())⟩), ex := 0 }
def an_slices_Contains_string_string : Ann := []
def cx_slices_Contains_string_string : Cx := mkCx [(65, [c_slices_Index_string_string])]
theorem eq_slices_Contains_string_string (s : (List Str)) (v : Str) (R : ((p : Pat) × p.V) → Prop) : fnVc (cx_slices_Contains_string_string) an_slices_Contains_string_string 0 Tryz.f51 I_slices_Contains_string_string [O_slices_Contains_string_string] (s, v, ()) R = slices_Contains_string_string.vc (fun y0 => R ⟨O_slices_Contains_string_string, (y0, ())⟩) s v := by kernel_rfl
theorem fs_slices_Contains_string_string : CtrsOk Tryz.prog [(65, [c_slices_Index_string_string])] gl := ⟨ctr1 (ctr_slices_Index_string_string), trivial⟩
theorem vc_slices_Contains_string_string (H : Nat → Entry) (v : c_slices_Contains_string_string.inp.V) (r : (p : Pat) × p.V) (h : (c_slices_Contains_string_string.body v).Sel H r) : fnVc (cx_slices_Contains_string_string) an_slices_Contains_string_string 0 Tryz.f51 c_slices_Contains_string_string.inp [O_slices_Contains_string_string] v (fun r' => r' = r) := by
  obtain ⟨s, v, ⟨⟩⟩ := v
  obtain ⟨h, rfl⟩ := h
  exact Eq.mpr (eq_slices_Contains_string_string s v _) (slices_Contains_string_string.ok _ s v h rfl)
theorem ctr_slices_Contains_string_string : CtrOk Tryz.prog 51 c_slices_Contains_string_string gl := ⟨⟨_, Tryz.func51, by kernel_rfl, by kernel_rfl⟩, fun H v r h => mk_ok _ (fs_slices_Contains_string_string) (an := an_slices_Contains_string_string) (outs := [O_slices_Contains_string_string]) Tryz.func51 (by decide) (vc_slices_Contains_string_string H v r h)⟩
abbrev I_urls_Safe : Pat := { slots := [(0, .ce (.v .str)), (1, .ce (.v (.sl .str)))], ents := [] }
abbrev O_urls_Safe : Pat := { slots := [(0, .ce (.v .bool))], ents := [] }
def c_urls_Safe : Ctr := { k0 := 0, inp := I_urls_Safe, body := fun v => .need (Sp.safeP.pre v.1 v.2.1) (.ret ⟨O_urls_Safe, ((Sp.safeP v.1 v.2.1), ())⟩), ex := 0 }
def an_urls_Safe : Ann := []
def cx_urls_Safe : Cx := mkCx [(83, [c_urls_Scheme]), (51, [c_slices_Contains_string_string])]
theorem eq_urls_Safe (s : Str) (schemes : (List Str)) (R : ((p : Pat) × p.V) → Prop) : fnVc (cx_urls_Safe) an_urls_Safe 0 Tryz.f76 I_urls_Safe [O_urls_Safe] (s, schemes, ()) R = urls_Safe.vc (fun y0 => R ⟨O_urls_Safe, (y0, ())⟩) s schemes := by kernel_rfl
theorem fs_urls_Safe : CtrsOk Tryz.prog [(83, [c_urls_Scheme]), (51, [c_slices_Contains_string_string])] gl := ⟨ctr1 (ctr_urls_Scheme), ctr1 (ctr_slices_Contains_string_string), trivial⟩
theorem vc_urls_Safe (H : Nat → Entry) (v : c_urls_Safe.inp.V) (r : (p : Pat) × p.V) (h : (c_urls_Safe.body v).Sel H r) : fnVc (cx_urls_Safe) an_urls_Safe 0 Tryz.f76 c_urls_Safe.inp [O_urls_Safe] v (fun r' => r' = r) := by
  obtain ⟨s, schemes, ⟨⟩⟩ := v
  obtain ⟨h, rfl⟩ := h
  exact Eq.mpr (eq_urls_Safe s schemes _) (urls_Safe.ok _ s schemes h rfl)
theorem ctr_urls_Safe : CtrOk Tryz.prog 76 c_urls_Safe gl := ⟨⟨_, Tryz.func76, by kernel_rfl, by kernel_rfl⟩, fun H v r h => mk_ok _ (fs_urls_Safe) (an := an_urls_Safe) (outs := [O_urls_Safe]) Tryz.func76 (by decide) (vc_urls_Safe H v r h)⟩
end Vs
