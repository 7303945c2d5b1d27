/- Functions held against what they tell. Written by a program of this session. -/
import Derived.Test.YtmciagbogdlcoaaDoorPlU
import Derived.Test.YtmciagbogdlcoaaDoorViThree
import Derived.Test.YtmciagbogdlcoaaDoorTabn
set_option linter.unnecessarySimpa false
set_option linter.unusedVariables false
set_option linter.unusedSectionVars false
set_option linter.unusedSimpArgs false
set_option autoImplicit false
set_option linter.unusedVariables false
set_option maxRecDepth 100000
attribute [local irreducible] Vi.fnVc
namespace Vs
open Go Vi Go.Proofs
abbrev I_strings_Builder_String : Pat := { slots := [(0, .ce (.ptr 0 0))], ents := [.box 50 [.pn 0, .os 1], .row 5 (.int .u8)] }
abbrev O_strings_Builder_String : Pat := { slots := [(0, .ce (.v .str))], ents := [.box 50 [.pn 0, .z]] }
def c_strings_Builder_String : Ctr := { k0 := 1, inp := I_strings_Builder_String, body := fun v => .ret ⟨O_strings_Builder_String, (bytesOf v.1, ())⟩, ex := 0 }
def an_strings_Builder_String : Ann := []
def cx_strings_Builder_String : Cx := mkCx []
theorem eq_strings_Builder_String (x : (List Int)) (R : ((p : Pat) × p.V) → Prop) : fnVc (cx_strings_Builder_String) an_strings_Builder_String 1 Tryd.f30 I_strings_Builder_String [O_strings_Builder_String] (x, ()) R = strings_Builder_String.vc (fun y0 => R ⟨O_strings_Builder_String, (y0, ())⟩) x := by kernel_rfl
theorem fs_strings_Builder_String : CtrsOk Tryd.prog [] gl := trivial
theorem vc_strings_Builder_String (H : Nat → Entry) (v : c_strings_Builder_String.inp.V) (r : (p : Pat) × p.V) (h : (c_strings_Builder_String.body v).Sel H r) : fnVc (cx_strings_Builder_String) an_strings_Builder_String 1 Tryd.f30 c_strings_Builder_String.inp [O_strings_Builder_String] v (fun r' => r' = r) := by
  obtain ⟨x, ⟨⟩⟩ := v
  obtain rfl := h
  exact Eq.mpr (eq_strings_Builder_String x _) (strings_Builder_String.ok _ x  rfl)
theorem ctr_strings_Builder_String : CtrOk Tryd.prog 30 c_strings_Builder_String gl := ⟨⟨_, Tryd.func30, by kernel_rfl, by kernel_rfl⟩, fun H v r h => mk_ok _ (fs_strings_Builder_String) (an := an_strings_Builder_String) (outs := [O_strings_Builder_String]) Tryd.func30 (by decide) (vc_strings_Builder_String H v r h)⟩
abbrev I_strings_Builder_WriteByte : Pat := { slots := [(0, .ce (.ptr 0 0)), (1, .ce (.v (.int .u8)))], ents := [.box 50 [.pn 0, .os 1], .row 5 (.int .u8)] }
abbrev O_strings_Builder_WriteByte : Pat := { slots := [(0, .ce .z)], ents := [.box 50 [.pn 0, .os 1], .row 5 (.int .u8)] }
def c_strings_Builder_WriteByte : Ctr := { k0 := 1, inp := I_strings_Builder_WriteByte, body := fun v => .need (Sp.wb.pre v.2.1 v.1) (.ret ⟨O_strings_Builder_WriteByte, (Sp.wb v.2.1 v.1, ())⟩), ex := 0 }
def an_strings_Builder_WriteByte : Ann := []
def cx_strings_Builder_WriteByte : Cx := mkCx []
theorem eq_strings_Builder_WriteByte (b : Int) (x : (List Int)) (R : ((p : Pat) × p.V) → Prop) : fnVc (cx_strings_Builder_WriteByte) an_strings_Builder_WriteByte 1 Tryd.f33 I_strings_Builder_WriteByte [O_strings_Builder_WriteByte] (b, x, ()) R = strings_Builder_WriteByte.vc (fun y0 => R ⟨O_strings_Builder_WriteByte, (y0, ())⟩) b x := by kernel_rfl
theorem fs_strings_Builder_WriteByte : CtrsOk Tryd.prog [] gl := trivial
theorem vc_strings_Builder_WriteByte (H : Nat → Entry) (v : c_strings_Builder_WriteByte.inp.V) (r : (p : Pat) × p.V) (h : (c_strings_Builder_WriteByte.body v).Sel H r) : fnVc (cx_strings_Builder_WriteByte) an_strings_Builder_WriteByte 1 Tryd.f33 c_strings_Builder_WriteByte.inp [O_strings_Builder_WriteByte] v (fun r' => r' = r) := by
  obtain ⟨b, x, ⟨⟩⟩ := v
  obtain ⟨h, rfl⟩ := h
  exact Eq.mpr (eq_strings_Builder_WriteByte b x _) (strings_Builder_WriteByte.ok _ b x h rfl)
theorem ctr_strings_Builder_WriteByte : CtrOk Tryd.prog 33 c_strings_Builder_WriteByte gl := ⟨⟨_, Tryd.func33, by kernel_rfl, by kernel_rfl⟩, fun H v r h => mk_ok _ (fs_strings_Builder_WriteByte) (an := an_strings_Builder_WriteByte) (outs := [O_strings_Builder_WriteByte]) Tryd.func33 (by decide) (vc_strings_Builder_WriteByte H v r h)⟩
end Vs
