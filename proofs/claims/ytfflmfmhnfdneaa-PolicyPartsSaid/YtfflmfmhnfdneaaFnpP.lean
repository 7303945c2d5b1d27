/- Functions held against what they tell. Written by a program of this session. -/
import Derived.Test.YtfflmfmhnfdneaaPlP
import Derived.Test.YtfflmfmhnfdneaaViThree
import Derived.Test.YtfflmfmhnfdneaaFnpU
set_option linter.unnecessarySimpa false
set_option linter.unusedVariables false
set_option linter.unusedSectionVars false
set_option linter.unusedSimpArgs false
set_option autoImplicit false
set_option linter.unusedVariables false
set_option maxRecDepth 100000
attribute [local irreducible] Vi.fnVc
namespace Vs
open Go Vi Go.Proofs
abbrev I_rectoplain_Texts : Pat := { slots := [(0, .ce (.v (.sl .str))), (1, .ce (.v (.sl .str)))], ents := [] }
abbrev O_rectoplain_Texts : Pat := { slots := [(0, .ce (.v .bool))], ents := [] }
def c_rectoplain_Texts : Ctr := { k0 := 0, inp := I_rectoplain_Texts, body := fun v => .need (Sp.eqL.pre v.1 v.2.1) (.ret ⟨O_rectoplain_Texts, ((Sp.eqL v.1 v.2.1), ())⟩), ex := 0 }
def an_rectoplain_Texts : Ann := [(2, { slots := [(0, .ce (.v (.sl .str))), (1, .ce (.v (.sl .str))), (7, .ce (.v (.int .i64))), (8, .ce (.v (.int .i64)))], ents := [] })]
def cx_rectoplain_Texts : Cx := mkCx []
theorem eq_rectoplain_Texts (a : (List Str)) (b : (List Str)) (R : ((p : Pat) × p.V) → Prop) : fnVc (cx_rectoplain_Texts) an_rectoplain_Texts 0 Try.f12 I_rectoplain_Texts [O_rectoplain_Texts] (a, b, ()) R = rectoplain_Texts.vc (fun y0 => R ⟨O_rectoplain_Texts, (y0, ())⟩) a b := by kernel_rfl
theorem fs_rectoplain_Texts : CtrsOk Try.prog [] := trivial
theorem vc_rectoplain_Texts (H : Nat → Entry) (v : c_rectoplain_Texts.inp.V) (r : (p : Pat) × p.V) (h : (c_rectoplain_Texts.body v).Sel H r) : fnVc (cx_rectoplain_Texts) an_rectoplain_Texts 0 Try.f12 c_rectoplain_Texts.inp [O_rectoplain_Texts] v (fun r' => r' = r) := by
  obtain ⟨a, b, ⟨⟩⟩ := v
  obtain ⟨h, rfl⟩ := h
  exact Eq.mpr (eq_rectoplain_Texts a b _) (rectoplain_Texts.ok _ a b h rfl)
theorem ctr_rectoplain_Texts : CtrOk Try.prog 12 c_rectoplain_Texts := ⟨⟨_, Try.func12, by kernel_rfl, by kernel_rfl⟩, fun H v r h => mk_ok _ (fs_rectoplain_Texts) (an := an_rectoplain_Texts) (outs := [O_rectoplain_Texts]) Try.func12 (by decide) (vc_rectoplain_Texts H v r h)⟩
abbrev I_tags_Group : Pat := { slots := [(0, .ce (.v .str))], ents := [] }
abbrev O_tags_Group : Pat := { slots := [(0, .ce (.v (.int .i64)))], ents := [] }
def c_tags_Group : Ctr := { k0 := 0, inp := I_tags_Group, body := fun v => .ret ⟨O_tags_Group, ((Sp.groupN v.1), ())⟩, ex := 0 }
def an_tags_Group : Ann := []
def cx_tags_Group : Cx := mkCx [] false true
theorem eq_tags_Group (name : Str) (R : ((p : Pat) × p.V) → Prop) : fnVc (cx_tags_Group) an_tags_Group 0 Try.f80 I_tags_Group [O_tags_Group] (name, ()) R = tags_Group.vc (fun y0 => R ⟨O_tags_Group, (y0, ())⟩) name := by kernel_rfl
theorem fs_tags_Group : CtrsOk Try.prog [] := trivial
theorem vc_tags_Group (H : Nat → Entry) (v : c_tags_Group.inp.V) (r : (p : Pat) × p.V) (h : (c_tags_Group.body v).Sel H r) : fnVc (cx_tags_Group) an_tags_Group 0 Try.f80 c_tags_Group.inp [O_tags_Group] v (fun r' => r' = r) := by
  obtain ⟨name, ⟨⟩⟩ := v
  obtain rfl := h
  exact Eq.mpr (eq_tags_Group name _) (tags_Group.ok _ name  rfl)
theorem ctr_tags_Group : CtrOk Try.prog 80 c_tags_Group := ⟨⟨_, Try.func80, by kernel_rfl, by kernel_rfl⟩, fun H v r h => mk_ok _ (fs_tags_Group) (an := an_tags_Group) (outs := [O_tags_Group]) Try.func80 (by decide) (vc_tags_Group H v r h)⟩
abbrev I_pen_small : Pat := { slots := [(0, .ce (.v (.int .u8)))], ents := [] }
abbrev O_pen_small : Pat := { slots := [(0, .ce (.v .bool))], ents := [] }
def c_pen_small : Ctr := { k0 := 0, inp := I_pen_small, body := fun v => .ret ⟨O_pen_small, ((Sp.smallB v.1), ())⟩, ex := 0 }
def an_pen_small : Ann := []
def cx_pen_small : Cx := mkCx []
theorem eq_pen_small (b : Int) (R : ((p : Pat) × p.V) → Prop) : fnVc (cx_pen_small) an_pen_small 0 Try.f76 I_pen_small [O_pen_small] (b, ()) R = pen_small.vc (fun y0 => R ⟨O_pen_small, (y0, ())⟩) b := by kernel_rfl
theorem fs_pen_small : CtrsOk Try.prog [] := trivial
theorem vc_pen_small (H : Nat → Entry) (v : c_pen_small.inp.V) (r : (p : Pat) × p.V) (h : (c_pen_small.body v).Sel H r) : fnVc (cx_pen_small) an_pen_small 0 Try.f76 c_pen_small.inp [O_pen_small] v (fun r' => r' = r) := by
  obtain ⟨b, ⟨⟩⟩ := v
  obtain rfl := h
  exact Eq.mpr (eq_pen_small b _) (pen_small.ok _ b  rfl)
theorem ctr_pen_small : CtrOk Try.prog 76 c_pen_small := ⟨⟨_, Try.func76, by kernel_rfl, by kernel_rfl⟩, fun H v r h => mk_ok _ (fs_pen_small) (an := an_pen_small) (outs := [O_pen_small]) Try.func76 (by decide) (vc_pen_small H v r h)⟩
abbrev I_pen_Name_1 : Pat := { slots := [(0, .ce (.v (.int .u8)))], ents := [] }
abbrev O_pen_Name_1 : Pat := { slots := [(0, .ce (.v .bool))], ents := [] }
def c_pen_Name_1 : Ctr := { k0 := 0, inp := I_pen_Name_1, body := fun v => .ret ⟨O_pen_Name_1, ((Sp.nameB v.1), ())⟩, ex := 0 }
def an_pen_Name_1 : Ann := []
def cx_pen_Name_1 : Cx := mkCx [(76, [c_pen_small]), (79, [c_chars_Digit])]
theorem eq_pen_Name_1 (b : Int) (R : ((p : Pat) × p.V) → Prop) : fnVc (cx_pen_Name_1) an_pen_Name_1 0 Try.f78 I_pen_Name_1 [O_pen_Name_1] (b, ()) R = pen_Name_1.vc (fun y0 => R ⟨O_pen_Name_1, (y0, ())⟩) b := by kernel_rfl
theorem fs_pen_Name_1 : CtrsOk Try.prog [(76, [c_pen_small]), (79, [c_chars_Digit])] := ⟨ctr1 (ctr_pen_small), ctr1 (ctr_chars_Digit), trivial⟩
theorem vc_pen_Name_1 (H : Nat → Entry) (v : c_pen_Name_1.inp.V) (r : (p : Pat) × p.V) (h : (c_pen_Name_1.body v).Sel H r) : fnVc (cx_pen_Name_1) an_pen_Name_1 0 Try.f78 c_pen_Name_1.inp [O_pen_Name_1] v (fun r' => r' = r) := by
  obtain ⟨b, ⟨⟩⟩ := v
  obtain rfl := h
  exact Eq.mpr (eq_pen_Name_1 b _) (pen_Name_1.ok _ b  rfl)
theorem ctr_pen_Name_1 : CtrOk Try.prog 78 c_pen_Name_1 := ⟨⟨_, Try.func78, by kernel_rfl, by kernel_rfl⟩, fun H v r h => mk_ok _ (fs_pen_Name_1) (an := an_pen_Name_1) (outs := [O_pen_Name_1]) Try.func78 (by decide) (vc_pen_Name_1 H v r h)⟩
abbrev I_pen_all : Pat := { slots := [(0, .ce (.v .str)), (1, .ce (.fn 78 [] []))], ents := [] }
abbrev O_pen_all : Pat := { slots := [(0, .ce (.v .bool))], ents := [] }
def c_pen_all : Ctr := { k0 := 0, inp := I_pen_all, body := fun v => .need (Sp.allN.pre v.1) (.ret ⟨O_pen_all, (Sp.allN v.1, ())⟩), ex := 0 }
def an_pen_all : Ann := [(2, { slots := [(0, .ce (.v .str)), (1, .ce (.fn 78 [] [])), (7, .ce (.v (.int .i64))), (8, .ce (.v (.int .i64)))], ents := [] })]
def cx_pen_all : Cx := mkCx [(78, [c_pen_Name_1])]
theorem eq_pen_all (s : Str) (R : ((p : Pat) × p.V) → Prop) : fnVc (cx_pen_all) an_pen_all 0 Try.f77 I_pen_all [O_pen_all] (s, ()) R = pen_all.vc (fun y0 => R ⟨O_pen_all, (y0, ())⟩) s := by kernel_rfl
theorem fs_pen_all : CtrsOk Try.prog [(78, [c_pen_Name_1])] := ⟨ctr1 (ctr_pen_Name_1), trivial⟩
theorem vc_pen_all (H : Nat → Entry) (v : c_pen_all.inp.V) (r : (p : Pat) × p.V) (h : (c_pen_all.body v).Sel H r) : fnVc (cx_pen_all) an_pen_all 0 Try.f77 c_pen_all.inp [O_pen_all] v (fun r' => r' = r) := by
  obtain ⟨s, ⟨⟩⟩ := v
  obtain ⟨h, rfl⟩ := h
  exact Eq.mpr (eq_pen_all s _) (pen_all.ok _ s h rfl)
theorem ctr_pen_all : CtrOk Try.prog 77 c_pen_all := ⟨⟨_, Try.func77, by kernel_rfl, by kernel_rfl⟩, fun H v r h => mk_ok _ (fs_pen_all) (an := an_pen_all) (outs := [O_pen_all]) Try.func77 (by decide) (vc_pen_all H v r h)⟩
abbrev I_pen_Name : Pat := { slots := [(0, .ce (.v .str))], ents := [] }
abbrev O_pen_Name : Pat := { slots := [(0, .ce (.v .bool))], ents := [] }
def c_pen_Name : Ctr := { k0 := 0, inp := I_pen_Name, body := fun v => .ret ⟨O_pen_Name, ((Sp.nameS v.1), ())⟩, ex := 0 }
def an_pen_Name : Ann := []
def cx_pen_Name : Cx := mkCx [(76, [c_pen_small]), (77, [c_pen_all]), (78, [c_pen_Name_1])]
theorem eq_pen_Name (s : Str) (R : ((p : Pat) × p.V) → Prop) : fnVc (cx_pen_Name) an_pen_Name 0 Try.f60 I_pen_Name [O_pen_Name] (s, ()) R = pen_Name.vc (fun y0 => R ⟨O_pen_Name, (y0, ())⟩) s := by kernel_rfl
theorem fs_pen_Name : CtrsOk Try.prog [(76, [c_pen_small]), (77, [c_pen_all]), (78, [c_pen_Name_1])] := ⟨ctr1 (ctr_pen_small), ctr1 (ctr_pen_all), ctr1 (ctr_pen_Name_1), trivial⟩
theorem vc_pen_Name (H : Nat → Entry) (v : c_pen_Name.inp.V) (r : (p : Pat) × p.V) (h : (c_pen_Name.body v).Sel H r) : fnVc (cx_pen_Name) an_pen_Name 0 Try.f60 c_pen_Name.inp [O_pen_Name] v (fun r' => r' = r) := by
  obtain ⟨s, ⟨⟩⟩ := v
  obtain rfl := h
  exact Eq.mpr (eq_pen_Name s _) (pen_Name.ok _ s  rfl)
theorem ctr_pen_Name : CtrOk Try.prog 60 c_pen_Name := ⟨⟨_, Try.func60, by kernel_rfl, by kernel_rfl⟩, fun H v r h => mk_ok _ (fs_pen_Name) (an := an_pen_Name) (outs := [O_pen_Name]) Try.func60 (by decide) (vc_pen_Name H v r h)⟩
abbrev I_policy_gone : Pat := { slots := [(0, .ce (.v .str))], ents := [] }
abbrev O_policy_gone : Pat := { slots := [(0, .ce (.v .bool))], ents := [] }
def c_policy_gone : Ctr := { k0 := 0, inp := I_policy_gone, body := fun v => .ret ⟨O_policy_gone, ((Sp.goneN v.1), ())⟩, ex := 0 }
def an_policy_gone : Ann := []
def cx_policy_gone : Cx := mkCx [(80, [c_tags_Group])]
theorem eq_policy_gone (name : Str) (R : ((p : Pat) × p.V) → Prop) : fnVc (cx_policy_gone) an_policy_gone 0 Try.f61 I_policy_gone [O_policy_gone] (name, ()) R = policy_gone.vc (fun y0 => R ⟨O_policy_gone, (y0, ())⟩) name := by kernel_rfl
theorem fs_policy_gone : CtrsOk Try.prog [(80, [c_tags_Group])] := ⟨ctr1 (ctr_tags_Group), trivial⟩
theorem vc_policy_gone (H : Nat → Entry) (v : c_policy_gone.inp.V) (r : (p : Pat) × p.V) (h : (c_policy_gone.body v).Sel H r) : fnVc (cx_policy_gone) an_policy_gone 0 Try.f61 c_policy_gone.inp [O_policy_gone] v (fun r' => r' = r) := by
  obtain ⟨name, ⟨⟩⟩ := v
  obtain rfl := h
  exact Eq.mpr (eq_policy_gone name _) (policy_gone.ok _ name  rfl)
theorem ctr_policy_gone : CtrOk Try.prog 61 c_policy_gone := ⟨⟨_, Try.func61, by kernel_rfl, by kernel_rfl⟩, fun H v r h => mk_ok _ (fs_policy_gone) (an := an_policy_gone) (outs := [O_policy_gone]) Try.func61 (by decide) (vc_policy_gone H v r h)⟩
abbrev I_policy_short_1 : Pat := { slots := [(0, .ag (.pair .str (.pair (.int .i64) (.pair (.sl .str) (.sl .str)))))], ents := [] }
abbrev O_policy_short_1 : Pat := { slots := [(0, .ce (.v .bool))], ents := [] }
def c_policy_short_1 : Ctr := { k0 := 0, inp := I_policy_short_1, body := fun v => .ret ⟨O_policy_short_1, ((Sp.wideR v.1), ())⟩, ex := 0 }
def an_policy_short_1 : Ann := []
def cx_policy_short_1 : Cx := mkCx []
theorem eq_policy_short_1 (r : (Str × (Int × ((List Str) × (List Str))))) (R : ((p : Pat) × p.V) → Prop) : fnVc (cx_policy_short_1) an_policy_short_1 0 Try.f38 I_policy_short_1 [O_policy_short_1] (r, ()) R = policy_short_1.vc (fun y0 => R ⟨O_policy_short_1, (y0, ())⟩) r := by kernel_rfl
theorem fs_policy_short_1 : CtrsOk Try.prog [] := trivial
theorem vc_policy_short_1 (H : Nat → Entry) (v : c_policy_short_1.inp.V) (r : (p : Pat) × p.V) (h : (c_policy_short_1.body v).Sel H r) : fnVc (cx_policy_short_1) an_policy_short_1 0 Try.f38 c_policy_short_1.inp [O_policy_short_1] v (fun r' => r' = r) := by
  obtain ⟨r, ⟨⟩⟩ := v
  obtain rfl := h
  exact Eq.mpr (eq_policy_short_1 r _) (policy_short_1.ok _ r  rfl)
theorem ctr_policy_short_1 : CtrOk Try.prog 38 c_policy_short_1 := ⟨⟨_, Try.func38, by kernel_rfl, by kernel_rfl⟩, fun H v r h => mk_ok _ (fs_policy_short_1) (an := an_policy_short_1) (outs := [O_policy_short_1]) Try.func38 (by decide) (vc_policy_short_1 H v r h)⟩
abbrev I_policy_formed_1 : Pat := { slots := [(0, .ce (.v (.int .i64)))], ents := [] }
abbrev O_policy_formed_1 : Pat := { slots := [(0, .ce (.v .bool))], ents := [] }
def c_policy_formed_1 : Ctr := { k0 := 0, inp := I_policy_formed_1, body := fun v => .ret ⟨O_policy_formed_1, ((Sp.awayB v.1), ())⟩, ex := 0 }
def an_policy_formed_1 : Ann := []
def cx_policy_formed_1 : Cx := mkCx []
theorem eq_policy_formed_1 (act : Int) (R : ((p : Pat) × p.V) → Prop) : fnVc (cx_policy_formed_1) an_policy_formed_1 0 Try.f41 I_policy_formed_1 [O_policy_formed_1] (act, ()) R = policy_formed_1.vc (fun y0 => R ⟨O_policy_formed_1, (y0, ())⟩) act := by kernel_rfl
theorem fs_policy_formed_1 : CtrsOk Try.prog [] := trivial
theorem vc_policy_formed_1 (H : Nat → Entry) (v : c_policy_formed_1.inp.V) (r : (p : Pat) × p.V) (h : (c_policy_formed_1.body v).Sel H r) : fnVc (cx_policy_formed_1) an_policy_formed_1 0 Try.f41 c_policy_formed_1.inp [O_policy_formed_1] v (fun r' => r' = r) := by
  obtain ⟨act, ⟨⟩⟩ := v
  obtain rfl := h
  exact Eq.mpr (eq_policy_formed_1 act _) (policy_formed_1.ok _ act  rfl)
theorem ctr_policy_formed_1 : CtrOk Try.prog 41 c_policy_formed_1 := ⟨⟨_, Try.func41, by kernel_rfl, by kernel_rfl⟩, fun H v r h => mk_ok _ (fs_policy_formed_1) (an := an_policy_formed_1) (outs := [O_policy_formed_1]) Try.func41 (by decide) (vc_policy_formed_1 H v r h)⟩
abbrev I_policy_formed_2 : Pat := { slots := [(0, .ce (.v .str))], ents := [] }
abbrev O_policy_formed_2 : Pat := { slots := [(0, .ce (.v .bool))], ents := [] }
def c_policy_formed_2 : Ctr := { k0 := 0, inp := I_policy_formed_2, body := fun v => .need (Sp.oddS.pre v.1) (.ret ⟨O_policy_formed_2, ((Sp.oddS v.1), ())⟩), ex := 0 }
def an_policy_formed_2 : Ann := []
def cx_policy_formed_2 : Cx := mkCx [(44, [c_chars_Lower])]
theorem eq_policy_formed_2 (s : Str) (R : ((p : Pat) × p.V) → Prop) : fnVc (cx_policy_formed_2) an_policy_formed_2 0 Try.f43 I_policy_formed_2 [O_policy_formed_2] (s, ()) R = policy_formed_2.vc (fun y0 => R ⟨O_policy_formed_2, (y0, ())⟩) s := by kernel_rfl
theorem fs_policy_formed_2 : CtrsOk Try.prog [(44, [c_chars_Lower])] := ⟨ctr1 (ctr_chars_Lower), trivial⟩
theorem vc_policy_formed_2 (H : Nat → Entry) (v : c_policy_formed_2.inp.V) (r : (p : Pat) × p.V) (h : (c_policy_formed_2.body v).Sel H r) : fnVc (cx_policy_formed_2) an_policy_formed_2 0 Try.f43 c_policy_formed_2.inp [O_policy_formed_2] v (fun r' => r' = r) := by
  obtain ⟨s, ⟨⟩⟩ := v
  obtain ⟨h, rfl⟩ := h
  exact Eq.mpr (eq_policy_formed_2 s _) (policy_formed_2.ok _ s h rfl)
theorem ctr_policy_formed_2 : CtrOk Try.prog 43 c_policy_formed_2 := ⟨⟨_, Try.func43, by kernel_rfl, by kernel_rfl⟩, fun H v r h => mk_ok _ (fs_policy_formed_2) (an := an_policy_formed_2) (outs := [O_policy_formed_2]) Try.func43 (by decide) (vc_policy_formed_2 H v r h)⟩
abbrev I_policy_right_1 : Pat := { slots := [(0, .ce (.v .str))], ents := [] }
abbrev O_policy_right_1 : Pat := { slots := [(0, .ce (.v .bool))], ents := [] }
def c_policy_right_1 : Ctr := { k0 := 0, inp := I_policy_right_1, body := fun v => .ret ⟨O_policy_right_1, ((Sp.notName v.1), ())⟩, ex := 0 }
def an_policy_right_1 : Ann := []
def cx_policy_right_1 : Cx := mkCx [(60, [c_pen_Name])]
theorem eq_policy_right_1 (s : Str) (R : ((p : Pat) × p.V) → Prop) : fnVc (cx_policy_right_1) an_policy_right_1 0 Try.f59 I_policy_right_1 [O_policy_right_1] (s, ()) R = policy_right_1.vc (fun y0 => R ⟨O_policy_right_1, (y0, ())⟩) s := by kernel_rfl
theorem fs_policy_right_1 : CtrsOk Try.prog [(60, [c_pen_Name])] := ⟨ctr1 (ctr_pen_Name), trivial⟩
theorem vc_policy_right_1 (H : Nat → Entry) (v : c_policy_right_1.inp.V) (r : (p : Pat) × p.V) (h : (c_policy_right_1.body v).Sel H r) : fnVc (cx_policy_right_1) an_policy_right_1 0 Try.f59 c_policy_right_1.inp [O_policy_right_1] v (fun r' => r' = r) := by
  obtain ⟨s, ⟨⟩⟩ := v
  obtain rfl := h
  exact Eq.mpr (eq_policy_right_1 s _) (policy_right_1.ok _ s  rfl)
theorem ctr_policy_right_1 : CtrOk Try.prog 59 c_policy_right_1 := ⟨⟨_, Try.func59, by kernel_rfl, by kernel_rfl⟩, fun H v r h => mk_ok _ (fs_policy_right_1) (an := an_policy_right_1) (outs := [O_policy_right_1]) Try.func59 (by decide) (vc_policy_right_1 H v r h)⟩
abbrev I_Index_wide : Pat := { slots := [(0, .ce (.v (.sl (.pair .str (.pair (.int .i64) (.pair (.sl .str) (.sl .str))))))), (1, .ce (.fn 38 [] []))], ents := [] }
abbrev O_Index_wide : Pat := { slots := [(0, .ce (.v (.int .i64)))], ents := [] }
def c_Index_wide : Ctr := { k0 := 0, inp := I_Index_wide, body := fun v => .need (Sp.rules.pre v.1) (.ret ⟨O_Index_wide, (Sp.idxWide v.1, ())⟩), ex := 0 }
def an_Index_wide : Ann := [(2, { slots := [(0, .ce (.v (.sl (.pair .str (.pair (.int .i64) (.pair (.sl .str) (.sl .str))))))), (1, .ce (.fn 38 [] [])), (7, .ce (.v (.int .i64))), (8, .ce (.v (.int .i64)))], ents := [] })]
def cx_Index_wide : Cx := mkCx [(38, [c_policy_short_1])]
theorem eq_Index_wide (l : (List (Str × (Int × ((List Str) × (List Str)))))) (R : ((p : Pat) × p.V) → Prop) : fnVc (cx_Index_wide) an_Index_wide 0 Try.f56 I_Index_wide [O_Index_wide] (l, ()) R = Index_wide.vc (fun y0 => R ⟨O_Index_wide, (y0, ())⟩) l := by kernel_rfl
theorem fs_Index_wide : CtrsOk Try.prog [(38, [c_policy_short_1])] := ⟨ctr1 (ctr_policy_short_1), trivial⟩
theorem vc_Index_wide (H : Nat → Entry) (v : c_Index_wide.inp.V) (r : (p : Pat) × p.V) (h : (c_Index_wide.body v).Sel H r) : fnVc (cx_Index_wide) an_Index_wide 0 Try.f56 c_Index_wide.inp [O_Index_wide] v (fun r' => r' = r) := by
  obtain ⟨l, ⟨⟩⟩ := v
  obtain ⟨h, rfl⟩ := h
  exact Eq.mpr (eq_Index_wide l _) (Index_wide.ok _ l h rfl)
theorem ctr_Index_wide : CtrOk Try.prog 56 c_Index_wide := ⟨⟨_, Try.func56, by kernel_rfl, by kernel_rfl⟩, fun H v r h => mk_ok _ (fs_Index_wide) (an := an_Index_wide) (outs := [O_Index_wide]) Try.func56 (by decide) (vc_Index_wide H v r h)⟩
abbrev I_Contains_wide : Pat := { slots := [(0, .ce (.v (.sl (.pair .str (.pair (.int .i64) (.pair (.sl .str) (.sl .str))))))), (1, .ce (.fn 38 [] []))], ents := [] }
abbrev O_Contains_wide : Pat := { slots := [(0, .ce (.v .bool))], ents := [] }
def c_Contains_wide : Ctr := { k0 := 0, inp := I_Contains_wide, body := fun v => .need (Sp.rules.pre v.1) (.ret ⟨O_Contains_wide, (Sp.anyWide v.1, ())⟩), ex := 0 }
def an_Contains_wide : Ann := []
def cx_Contains_wide : Cx := mkCx [(56, [c_Index_wide])]
theorem eq_Contains_wide (l : (List (Str × (Int × ((List Str) × (List Str)))))) (R : ((p : Pat) × p.V) → Prop) : fnVc (cx_Contains_wide) an_Contains_wide 0 Try.f37 I_Contains_wide [O_Contains_wide] (l, ()) R = Contains_wide.vc (fun y0 => R ⟨O_Contains_wide, (y0, ())⟩) l := by kernel_rfl
theorem fs_Contains_wide : CtrsOk Try.prog [(56, [c_Index_wide])] := ⟨ctr1 (ctr_Index_wide), trivial⟩
theorem vc_Contains_wide (H : Nat → Entry) (v : c_Contains_wide.inp.V) (r : (p : Pat) × p.V) (h : (c_Contains_wide.body v).Sel H r) : fnVc (cx_Contains_wide) an_Contains_wide 0 Try.f37 c_Contains_wide.inp [O_Contains_wide] v (fun r' => r' = r) := by
  obtain ⟨l, ⟨⟩⟩ := v
  obtain ⟨h, rfl⟩ := h
  exact Eq.mpr (eq_Contains_wide l _) (Contains_wide.ok _ l h rfl)
theorem ctr_Contains_wide : CtrOk Try.prog 37 c_Contains_wide := ⟨⟨_, Try.func37, by kernel_rfl, by kernel_rfl⟩, fun H v r h => mk_ok _ (fs_Contains_wide) (an := an_Contains_wide) (outs := [O_Contains_wide]) Try.func37 (by decide) (vc_Contains_wide H v r h)⟩
abbrev I_Index_nn : Pat := { slots := [(0, .ce (.v (.sl .str))), (1, .ce (.fn 59 [] []))], ents := [] }
abbrev O_Index_nn : Pat := { slots := [(0, .ce (.v (.int .i64)))], ents := [] }
def c_Index_nn : Ctr := { k0 := 0, inp := I_Index_nn, body := fun v => .need (Sp.strs.pre v.1) (.ret ⟨O_Index_nn, (Sp.idxNN v.1, ())⟩), ex := 0 }
def an_Index_nn : Ann := [(2, { slots := [(0, .ce (.v (.sl .str))), (1, .ce (.fn 59 [] [])), (7, .ce (.v (.int .i64))), (8, .ce (.v (.int .i64)))], ents := [] })]
def cx_Index_nn : Cx := mkCx [(59, [c_policy_right_1])]
theorem eq_Index_nn (l : (List Str)) (R : ((p : Pat) × p.V) → Prop) : fnVc (cx_Index_nn) an_Index_nn 0 Try.f58 I_Index_nn [O_Index_nn] (l, ()) R = Index_nn.vc (fun y0 => R ⟨O_Index_nn, (y0, ())⟩) l := by kernel_rfl
theorem fs_Index_nn : CtrsOk Try.prog [(59, [c_policy_right_1])] := ⟨ctr1 (ctr_policy_right_1), trivial⟩
theorem vc_Index_nn (H : Nat → Entry) (v : c_Index_nn.inp.V) (r : (p : Pat) × p.V) (h : (c_Index_nn.body v).Sel H r) : fnVc (cx_Index_nn) an_Index_nn 0 Try.f58 c_Index_nn.inp [O_Index_nn] v (fun r' => r' = r) := by
  obtain ⟨l, ⟨⟩⟩ := v
  obtain ⟨h, rfl⟩ := h
  exact Eq.mpr (eq_Index_nn l _) (Index_nn.ok _ l h rfl)
theorem ctr_Index_nn : CtrOk Try.prog 58 c_Index_nn := ⟨⟨_, Try.func58, by kernel_rfl, by kernel_rfl⟩, fun H v r h => mk_ok _ (fs_Index_nn) (an := an_Index_nn) (outs := [O_Index_nn]) Try.func58 (by decide) (vc_Index_nn H v r h)⟩
abbrev I_Contains_nn : Pat := { slots := [(0, .ce (.v (.sl .str))), (1, .ce (.fn 59 [] []))], ents := [] }
abbrev O_Contains_nn : Pat := { slots := [(0, .ce (.v .bool))], ents := [] }
def c_Contains_nn : Ctr := { k0 := 0, inp := I_Contains_nn, body := fun v => .need (Sp.strs.pre v.1) (.ret ⟨O_Contains_nn, (Sp.anyNN v.1, ())⟩), ex := 0 }
def an_Contains_nn : Ann := []
def cx_Contains_nn : Cx := mkCx [(58, [c_Index_nn])]
theorem eq_Contains_nn (l : (List Str)) (R : ((p : Pat) × p.V) → Prop) : fnVc (cx_Contains_nn) an_Contains_nn 0 Try.f42 I_Contains_nn [O_Contains_nn] (l, ()) R = Contains_nn.vc (fun y0 => R ⟨O_Contains_nn, (y0, ())⟩) l := by kernel_rfl
theorem fs_Contains_nn : CtrsOk Try.prog [(58, [c_Index_nn])] := ⟨ctr1 (ctr_Index_nn), trivial⟩
theorem vc_Contains_nn (H : Nat → Entry) (v : c_Contains_nn.inp.V) (r : (p : Pat) × p.V) (h : (c_Contains_nn.body v).Sel H r) : fnVc (cx_Contains_nn) an_Contains_nn 0 Try.f42 c_Contains_nn.inp [O_Contains_nn] v (fun r' => r' = r) := by
  obtain ⟨l, ⟨⟩⟩ := v
  obtain ⟨h, rfl⟩ := h
  exact Eq.mpr (eq_Contains_nn l _) (Contains_nn.ok _ l h rfl)
theorem ctr_Contains_nn : CtrOk Try.prog 42 c_Contains_nn := ⟨⟨_, Try.func42, by kernel_rfl, by kernel_rfl⟩, fun H v r h => mk_ok _ (fs_Contains_nn) (an := an_Contains_nn) (outs := [O_Contains_nn]) Try.func42 (by decide) (vc_Contains_nn H v r h)⟩
abbrev I_Index_odd : Pat := { slots := [(0, .ce (.v (.sl .str))), (1, .ce (.fn 43 [] []))], ents := [] }
abbrev O_Index_odd : Pat := { slots := [(0, .ce (.v (.int .i64)))], ents := [] }
def c_Index_odd : Ctr := { k0 := 0, inp := I_Index_odd, body := fun v => .need (Sp.strs.pre v.1) (.ret ⟨O_Index_odd, (Sp.idxOdd v.1, ())⟩), ex := 0 }
def an_Index_odd : Ann := [(2, { slots := [(0, .ce (.v (.sl .str))), (1, .ce (.fn 43 [] [])), (7, .ce (.v (.int .i64))), (8, .ce (.v (.int .i64)))], ents := [] })]
def cx_Index_odd : Cx := mkCx [(43, [c_policy_formed_2])]
theorem eq_Index_odd (l : (List Str)) (R : ((p : Pat) × p.V) → Prop) : fnVc (cx_Index_odd) an_Index_odd 0 Try.f58 I_Index_odd [O_Index_odd] (l, ()) R = Index_odd.vc (fun y0 => R ⟨O_Index_odd, (y0, ())⟩) l := by kernel_rfl
theorem fs_Index_odd : CtrsOk Try.prog [(43, [c_policy_formed_2])] := ⟨ctr1 (ctr_policy_formed_2), trivial⟩
theorem vc_Index_odd (H : Nat → Entry) (v : c_Index_odd.inp.V) (r : (p : Pat) × p.V) (h : (c_Index_odd.body v).Sel H r) : fnVc (cx_Index_odd) an_Index_odd 0 Try.f58 c_Index_odd.inp [O_Index_odd] v (fun r' => r' = r) := by
  obtain ⟨l, ⟨⟩⟩ := v
  obtain ⟨h, rfl⟩ := h
  exact Eq.mpr (eq_Index_odd l _) (Index_odd.ok _ l h rfl)
theorem ctr_Index_odd : CtrOk Try.prog 58 c_Index_odd := ⟨⟨_, Try.func58, by kernel_rfl, by kernel_rfl⟩, fun H v r h => mk_ok _ (fs_Index_odd) (an := an_Index_odd) (outs := [O_Index_odd]) Try.func58 (by decide) (vc_Index_odd H v r h)⟩
abbrev I_Contains_odd : Pat := { slots := [(0, .ce (.v (.sl .str))), (1, .ce (.fn 43 [] []))], ents := [] }
abbrev O_Contains_odd : Pat := { slots := [(0, .ce (.v .bool))], ents := [] }
def c_Contains_odd : Ctr := { k0 := 0, inp := I_Contains_odd, body := fun v => .need (Sp.strs.pre v.1) (.ret ⟨O_Contains_odd, (Sp.anyOdd v.1, ())⟩), ex := 0 }
def an_Contains_odd : Ann := []
def cx_Contains_odd : Cx := mkCx [(58, [c_Index_odd])]
theorem eq_Contains_odd (l : (List Str)) (R : ((p : Pat) × p.V) → Prop) : fnVc (cx_Contains_odd) an_Contains_odd 0 Try.f42 I_Contains_odd [O_Contains_odd] (l, ()) R = Contains_odd.vc (fun y0 => R ⟨O_Contains_odd, (y0, ())⟩) l := by kernel_rfl
theorem fs_Contains_odd : CtrsOk Try.prog [(58, [c_Index_odd])] := ⟨ctr1 (ctr_Index_odd), trivial⟩
theorem vc_Contains_odd (H : Nat → Entry) (v : c_Contains_odd.inp.V) (r : (p : Pat) × p.V) (h : (c_Contains_odd.body v).Sel H r) : fnVc (cx_Contains_odd) an_Contains_odd 0 Try.f42 c_Contains_odd.inp [O_Contains_odd] v (fun r' => r' = r) := by
  obtain ⟨l, ⟨⟩⟩ := v
  obtain ⟨h, rfl⟩ := h
  exact Eq.mpr (eq_Contains_odd l _) (Contains_odd.ok _ l h rfl)
theorem ctr_Contains_odd : CtrOk Try.prog 42 c_Contains_odd := ⟨⟨_, Try.func42, by kernel_rfl, by kernel_rfl⟩, fun H v r h => mk_ok _ (fs_Contains_odd) (an := an_Contains_odd) (outs := [O_Contains_odd]) Try.func42 (by decide) (vc_Contains_odd H v r h)⟩
abbrev I_slices_Grow_string_string : Pat := { slots := [(0, .ce .nils), (1, .ce (.v (.int .i64)))], ents := [] }
abbrev O_slices_Grow_string_string : Pat := { slots := [(0, .ce (.os 0))], ents := [.row 9 .str] }
def c_slices_Grow_string_string : Ctr := { k0 := 0, inp := I_slices_Grow_string_string, body := fun v => .need (Sp.growP v.1) (.ret ⟨O_slices_Grow_string_string, (([] : List Str), ())⟩), ex := 0 }
def an_slices_Grow_string_string : Ann := []
def cx_slices_Grow_string_string : Cx := mkCx []
theorem eq_slices_Grow_string_string (n : Int) (R : ((p : Pat) × p.V) → Prop) : fnVc (cx_slices_Grow_string_string) an_slices_Grow_string_string 0 Try.f75 I_slices_Grow_string_string [O_slices_Grow_string_string] (n, ()) R = slices_Grow_string_string.vc (fun y0 => R ⟨O_slices_Grow_string_string, (y0, ())⟩) n := by kernel_rfl
theorem fs_slices_Grow_string_string : CtrsOk Try.prog [] := trivial
theorem vc_slices_Grow_string_string (H : Nat → Entry) (v : c_slices_Grow_string_string.inp.V) (r : (p : Pat) × p.V) (h : (c_slices_Grow_string_string.body v).Sel H r) : fnVc (cx_slices_Grow_string_string) an_slices_Grow_string_string 0 Try.f75 c_slices_Grow_string_string.inp [O_slices_Grow_string_string] v (fun r' => r' = r) := by
  obtain ⟨n, ⟨⟩⟩ := v
  obtain ⟨h, rfl⟩ := h
  exact Eq.mpr (eq_slices_Grow_string_string n _) (slices_Grow_string_string.ok _ n h rfl)
theorem ctr_slices_Grow_string_string : CtrOk Try.prog 75 c_slices_Grow_string_string := ⟨⟨_, Try.func75, by kernel_rfl, by kernel_rfl⟩, fun H v r h => mk_ok _ (fs_slices_Grow_string_string) (an := an_slices_Grow_string_string) (outs := [O_slices_Grow_string_string]) Try.func75 (by decide) (vc_slices_Grow_string_string H v r h)⟩
abbrev I_slices_Concat_string_string : Pat := { slots := [(0, .ce (.v (.sl (.sl .str))))], ents := [] }
abbrev O_slices_Concat_string_string : Pat := { slots := [(0, .ce (.v (.sl .str)))], ents := [] }
def c_slices_Concat_string_string : Ctr := { k0 := 0, inp := I_slices_Concat_string_string, body := fun v => .need (Sp.concatS.pre v.1) (.ret ⟨O_slices_Concat_string_string, ((Sp.concatS v.1), ())⟩), ex := 0 }
def an_slices_Concat_string_string : Ann := [(3, { slots := [(0, .ce (.v (.sl (.sl .str)))), (3, .ce (.v (.int .i64))), (9, .ce (.v (.sl (.sl .str)))), (10, .ce (.v (.int .i64))), (11, .ce (.v (.int .i64)))], ents := [] }), (11, { slots := [(6, .ce (.os 0)), (25, .ce (.v (.sl (.sl .str)))), (26, .ce (.v (.int .i64))), (27, .ce (.v (.int .i64)))], ents := [.row 9 .str] })]
def cx_slices_Concat_string_string : Cx := mkCx [(75, [c_slices_Grow_string_string])]
theorem eq_slices_Concat_string_string (slices : (List (List Str))) (R : ((p : Pat) × p.V) → Prop) : fnVc (cx_slices_Concat_string_string) an_slices_Concat_string_string 0 Try.f57 I_slices_Concat_string_string [O_slices_Concat_string_string] (slices, ()) R = slices_Concat_string_string.vc (fun y0 => R ⟨O_slices_Concat_string_string, (y0, ())⟩) slices := by kernel_rfl
theorem fs_slices_Concat_string_string : CtrsOk Try.prog [(75, [c_slices_Grow_string_string])] := ⟨ctr1 (ctr_slices_Grow_string_string), trivial⟩
theorem vc_slices_Concat_string_string (H : Nat → Entry) (v : c_slices_Concat_string_string.inp.V) (r : (p : Pat) × p.V) (h : (c_slices_Concat_string_string.body v).Sel H r) : fnVc (cx_slices_Concat_string_string) an_slices_Concat_string_string 0 Try.f57 c_slices_Concat_string_string.inp [O_slices_Concat_string_string] v (fun r' => r' = r) := by
  obtain ⟨slices, ⟨⟩⟩ := v
  obtain ⟨h, rfl⟩ := h
  exact Eq.mpr (eq_slices_Concat_string_string slices _) (slices_Concat_string_string.ok _ slices h rfl)
theorem ctr_slices_Concat_string_string : CtrOk Try.prog 57 c_slices_Concat_string_string := ⟨⟨_, Try.func57, by kernel_rfl, by kernel_rfl⟩, fun H v r h => mk_ok _ (fs_slices_Concat_string_string) (an := an_slices_Concat_string_string) (outs := [O_slices_Concat_string_string]) Try.func57 (by decide) (vc_slices_Concat_string_string H v r h)⟩
abbrev I_policy_Rule_names : Pat := { slots := [(0, .ag (.pair .str (.pair (.int .i64) (.pair (.sl .str) (.sl .str)))))], ents := [] }
abbrev O_policy_Rule_names : Pat := { slots := [(0, .ce (.v (.sl .str)))], ents := [] }
def c_policy_Rule_names : Ctr := { k0 := 0, inp := I_policy_Rule_names, body := fun v => .need (Sp.ruleOkk v.1) (.ret ⟨O_policy_Rule_names, ((Sp.namesR v.1), ())⟩), ex := 0 }
def an_policy_Rule_names : Ann := []
def cx_policy_Rule_names : Cx := mkCx [(57, [c_slices_Concat_string_string])]
theorem eq_policy_Rule_names (r : (Str × (Int × ((List Str) × (List Str))))) (R : ((p : Pat) × p.V) → Prop) : fnVc (cx_policy_Rule_names) an_policy_Rule_names 0 Try.f40 I_policy_Rule_names [O_policy_Rule_names] (r, ()) R = policy_Rule_names.vc (fun y0 => R ⟨O_policy_Rule_names, (y0, ())⟩) r := by kernel_rfl
theorem fs_policy_Rule_names : CtrsOk Try.prog [(57, [c_slices_Concat_string_string])] := ⟨ctr1 (ctr_slices_Concat_string_string), trivial⟩
theorem vc_policy_Rule_names (H : Nat → Entry) (v : c_policy_Rule_names.inp.V) (r : (p : Pat) × p.V) (h : (c_policy_Rule_names.body v).Sel H r) : fnVc (cx_policy_Rule_names) an_policy_Rule_names 0 Try.f40 c_policy_Rule_names.inp [O_policy_Rule_names] v (fun r' => r' = r) := by
  obtain ⟨r, ⟨⟩⟩ := v
  obtain ⟨h, rfl⟩ := h
  exact Eq.mpr (eq_policy_Rule_names r _) (policy_Rule_names.ok _ r h rfl)
theorem ctr_policy_Rule_names : CtrOk Try.prog 40 c_policy_Rule_names := ⟨⟨_, Try.func40, by kernel_rfl, by kernel_rfl⟩, fun H v r h => mk_ok _ (fs_policy_Rule_names) (an := an_policy_Rule_names) (outs := [O_policy_Rule_names]) Try.func40 (by decide) (vc_policy_Rule_names H v r h)⟩
abbrev I_policy_twice : Pat := { slots := [(0, .ce (.v (.sl .str)))], ents := [] }
abbrev O_policy_twice : Pat := { slots := [(0, .ce (.v .bool))], ents := [] }
def c_policy_twice : Ctr := { k0 := 0, inp := I_policy_twice, body := fun v => .need (Sp.twiceL.pre v.1) (.ret ⟨O_policy_twice, ((Sp.twiceL v.1), ())⟩), ex := 0 }
def an_policy_twice : Ann := [(2, { slots := [(0, .ce (.v (.sl .str))), (5, .ce (.v (.int .i64))), (6, .ce (.v (.int .i64)))], ents := [] })]
def cx_policy_twice : Cx := mkCx [(51, [c_slices_Contains_string_string])]
theorem eq_policy_twice (l : (List Str)) (R : ((p : Pat) × p.V) → Prop) : fnVc (cx_policy_twice) an_policy_twice 0 Try.f39 I_policy_twice [O_policy_twice] (l, ()) R = policy_twice.vc (fun y0 => R ⟨O_policy_twice, (y0, ())⟩) l := by kernel_rfl
theorem fs_policy_twice : CtrsOk Try.prog [(51, [c_slices_Contains_string_string])] := ⟨ctr1 (ctr_slices_Contains_string_string), trivial⟩
theorem vc_policy_twice (H : Nat → Entry) (v : c_policy_twice.inp.V) (r : (p : Pat) × p.V) (h : (c_policy_twice.body v).Sel H r) : fnVc (cx_policy_twice) an_policy_twice 0 Try.f39 c_policy_twice.inp [O_policy_twice] v (fun r' => r' = r) := by
  obtain ⟨l, ⟨⟩⟩ := v
  obtain ⟨h, rfl⟩ := h
  exact Eq.mpr (eq_policy_twice l _) (policy_twice.ok _ l h rfl)
theorem ctr_policy_twice : CtrOk Try.prog 39 c_policy_twice := ⟨⟨_, Try.func39, by kernel_rfl, by kernel_rfl⟩, fun H v r h => mk_ok _ (fs_policy_twice) (an := an_policy_twice) (outs := [O_policy_twice]) Try.func39 (by decide) (vc_policy_twice H v r h)⟩
abbrev I_policy_right : Pat := { slots := [(0, .ag (.pair .str (.pair (.int .i64) (.pair (.sl .str) (.sl .str)))))], ents := [] }
abbrev O_policy_right : Pat := { slots := [(0, .ce (.v .bool))], ents := [] }
def c_policy_right : Ctr := { k0 := 0, inp := I_policy_right, body := fun v => .need (Sp.ruleOkk v.1) (.ret ⟨O_policy_right, ((Sp.rightR v.1), ())⟩), ex := 0 }
def an_policy_right : Ann := []
def cx_policy_right : Cx := mkCx [(40, [c_policy_Rule_names]), (42, [c_Contains_nn]), (59, [c_policy_right_1]), (60, [c_pen_Name]), (61, [c_policy_gone])]
theorem eq_policy_right (r : (Str × (Int × ((List Str) × (List Str))))) (R : ((p : Pat) × p.V) → Prop) : fnVc (cx_policy_right) an_policy_right 0 Try.f46 I_policy_right [O_policy_right] (r, ()) R = policy_right.vc (fun y0 => R ⟨O_policy_right, (y0, ())⟩) r := by kernel_rfl
theorem fs_policy_right : CtrsOk Try.prog [(40, [c_policy_Rule_names]), (42, [c_Contains_nn]), (59, [c_policy_right_1]), (60, [c_pen_Name]), (61, [c_policy_gone])] := ⟨ctr1 (ctr_policy_Rule_names), ctr1 (ctr_Contains_nn), ctr1 (ctr_policy_right_1), ctr1 (ctr_pen_Name), ctr1 (ctr_policy_gone), trivial⟩
theorem vc_policy_right (H : Nat → Entry) (v : c_policy_right.inp.V) (r : (p : Pat) × p.V) (h : (c_policy_right.body v).Sel H r) : fnVc (cx_policy_right) an_policy_right 0 Try.f46 c_policy_right.inp [O_policy_right] v (fun r' => r' = r) := by
  obtain ⟨r, ⟨⟩⟩ := v
  obtain ⟨h, rfl⟩ := h
  exact Eq.mpr (eq_policy_right r _) (policy_right.ok _ r h rfl)
theorem ctr_policy_right : CtrOk Try.prog 46 c_policy_right := ⟨⟨_, Try.func46, by kernel_rfl, by kernel_rfl⟩, fun H v r h => mk_ok _ (fs_policy_right) (an := an_policy_right) (outs := [O_policy_right]) Try.func46 (by decide) (vc_policy_right H v r h)⟩
abbrev I_policy_formed_3 : Pat := { slots := [(0, .ag (.pair .str (.pair (.int .i64) (.pair (.sl .str) (.sl .str)))))], ents := [] }
abbrev O_policy_formed_3 : Pat := { slots := [(0, .ce (.v .bool))], ents := [] }
def c_policy_formed_3 : Ctr := { k0 := 0, inp := I_policy_formed_3, body := fun v => .need (Sp.ruleOkk v.1) (.ret ⟨O_policy_formed_3, ((Sp.notRight v.1), ())⟩), ex := 0 }
def an_policy_formed_3 : Ann := []
def cx_policy_formed_3 : Cx := mkCx [(46, [c_policy_right])]
theorem eq_policy_formed_3 (r : (Str × (Int × ((List Str) × (List Str))))) (R : ((p : Pat) × p.V) → Prop) : fnVc (cx_policy_formed_3) an_policy_formed_3 0 Try.f45 I_policy_formed_3 [O_policy_formed_3] (r, ()) R = policy_formed_3.vc (fun y0 => R ⟨O_policy_formed_3, (y0, ())⟩) r := by kernel_rfl
theorem fs_policy_formed_3 : CtrsOk Try.prog [(46, [c_policy_right])] := ⟨ctr1 (ctr_policy_right), trivial⟩
theorem vc_policy_formed_3 (H : Nat → Entry) (v : c_policy_formed_3.inp.V) (r : (p : Pat) × p.V) (h : (c_policy_formed_3.body v).Sel H r) : fnVc (cx_policy_formed_3) an_policy_formed_3 0 Try.f45 c_policy_formed_3.inp [O_policy_formed_3] v (fun r' => r' = r) := by
  obtain ⟨r, ⟨⟩⟩ := v
  obtain ⟨h, rfl⟩ := h
  exact Eq.mpr (eq_policy_formed_3 r _) (policy_formed_3.ok _ r h rfl)
theorem ctr_policy_formed_3 : CtrOk Try.prog 45 c_policy_formed_3 := ⟨⟨_, Try.func45, by kernel_rfl, by kernel_rfl⟩, fun H v r h => mk_ok _ (fs_policy_formed_3) (an := an_policy_formed_3) (outs := [O_policy_formed_3]) Try.func45 (by decide) (vc_policy_formed_3 H v r h)⟩
abbrev I_Index_nr : Pat := { slots := [(0, .ce (.v (.sl (.pair .str (.pair (.int .i64) (.pair (.sl .str) (.sl .str))))))), (1, .ce (.fn 45 [] []))], ents := [] }
abbrev O_Index_nr : Pat := { slots := [(0, .ce (.v (.int .i64)))], ents := [] }
def c_Index_nr : Ctr := { k0 := 0, inp := I_Index_nr, body := fun v => .need (Sp.rulesOk v.1) (.ret ⟨O_Index_nr, (Sp.idxNR v.1, ())⟩), ex := 0 }
def an_Index_nr : Ann := [(2, { slots := [(0, .ce (.v (.sl (.pair .str (.pair (.int .i64) (.pair (.sl .str) (.sl .str))))))), (1, .ce (.fn 45 [] [])), (7, .ce (.v (.int .i64))), (8, .ce (.v (.int .i64)))], ents := [] })]
def cx_Index_nr : Cx := mkCx [(45, [c_policy_formed_3])]
theorem eq_Index_nr (l : (List (Str × (Int × ((List Str) × (List Str)))))) (R : ((p : Pat) × p.V) → Prop) : fnVc (cx_Index_nr) an_Index_nr 0 Try.f56 I_Index_nr [O_Index_nr] (l, ()) R = Index_nr.vc (fun y0 => R ⟨O_Index_nr, (y0, ())⟩) l := by kernel_rfl
theorem fs_Index_nr : CtrsOk Try.prog [(45, [c_policy_formed_3])] := ⟨ctr1 (ctr_policy_formed_3), trivial⟩
theorem vc_Index_nr (H : Nat → Entry) (v : c_Index_nr.inp.V) (r : (p : Pat) × p.V) (h : (c_Index_nr.body v).Sel H r) : fnVc (cx_Index_nr) an_Index_nr 0 Try.f56 c_Index_nr.inp [O_Index_nr] v (fun r' => r' = r) := by
  obtain ⟨l, ⟨⟩⟩ := v
  obtain ⟨h, rfl⟩ := h
  exact Eq.mpr (eq_Index_nr l _) (Index_nr.ok _ l h rfl)
theorem ctr_Index_nr : CtrOk Try.prog 56 c_Index_nr := ⟨⟨_, Try.func56, by kernel_rfl, by kernel_rfl⟩, fun H v r h => mk_ok _ (fs_Index_nr) (an := an_Index_nr) (outs := [O_Index_nr]) Try.func56 (by decide) (vc_Index_nr H v r h)⟩
abbrev I_Contains_nr : Pat := { slots := [(0, .ce (.v (.sl (.pair .str (.pair (.int .i64) (.pair (.sl .str) (.sl .str))))))), (1, .ce (.fn 45 [] []))], ents := [] }
abbrev O_Contains_nr : Pat := { slots := [(0, .ce (.v .bool))], ents := [] }
def c_Contains_nr : Ctr := { k0 := 0, inp := I_Contains_nr, body := fun v => .need (Sp.rulesOk v.1) (.ret ⟨O_Contains_nr, (Sp.anyNR v.1, ())⟩), ex := 0 }
def an_Contains_nr : Ann := []
def cx_Contains_nr : Cx := mkCx [(56, [c_Index_nr])]
theorem eq_Contains_nr (l : (List (Str × (Int × ((List Str) × (List Str)))))) (R : ((p : Pat) × p.V) → Prop) : fnVc (cx_Contains_nr) an_Contains_nr 0 Try.f37 I_Contains_nr [O_Contains_nr] (l, ()) R = Contains_nr.vc (fun y0 => R ⟨O_Contains_nr, (y0, ())⟩) l := by kernel_rfl
theorem fs_Contains_nr : CtrsOk Try.prog [(56, [c_Index_nr])] := ⟨ctr1 (ctr_Index_nr), trivial⟩
theorem vc_Contains_nr (H : Nat → Entry) (v : c_Contains_nr.inp.V) (r : (p : Pat) × p.V) (h : (c_Contains_nr.body v).Sel H r) : fnVc (cx_Contains_nr) an_Contains_nr 0 Try.f37 c_Contains_nr.inp [O_Contains_nr] v (fun r' => r' = r) := by
  obtain ⟨l, ⟨⟩⟩ := v
  obtain ⟨h, rfl⟩ := h
  exact Eq.mpr (eq_Contains_nr l _) (Contains_nr.ok _ l h rfl)
theorem ctr_Contains_nr : CtrOk Try.prog 37 c_Contains_nr := ⟨⟨_, Try.func37, by kernel_rfl, by kernel_rfl⟩, fun H v r h => mk_ok _ (fs_Contains_nr) (an := an_Contains_nr) (outs := [O_Contains_nr]) Try.func37 (by decide) (vc_Contains_nr H v r h)⟩
abbrev I_policy_short : Pat := { slots := [(0, .ag (.pair (.sl (.pair .str (.pair (.int .i64) (.pair (.sl .str) (.sl .str))))) (.pair (.sl .str) (.pair (.int .i64) (.int .i64)))))], ents := [] }
abbrev O_policy_short : Pat := { slots := [(0, .ce (.v .bool))], ents := [] }
def c_policy_short : Ctr := { k0 := 0, inp := I_policy_short, body := fun v => .need (Sp.polOkk v.1) (.ret ⟨O_policy_short, ((Sp.shortP v.1), ())⟩), ex := 0 }
def an_policy_short : Ann := []
def cx_policy_short : Cx := mkCx [(37, [c_Contains_wide]), (38, [c_policy_short_1])]
theorem eq_policy_short (p : ((List (Str × (Int × ((List Str) × (List Str))))) × ((List Str) × (Int × Int)))) (R : ((p : Pat) × p.V) → Prop) : fnVc (cx_policy_short) an_policy_short 0 Try.f23 I_policy_short [O_policy_short] (p, ()) R = policy_short.vc (fun y0 => R ⟨O_policy_short, (y0, ())⟩) p := by kernel_rfl
theorem fs_policy_short : CtrsOk Try.prog [(37, [c_Contains_wide]), (38, [c_policy_short_1])] := ⟨ctr1 (ctr_Contains_wide), ctr1 (ctr_policy_short_1), trivial⟩
theorem vc_policy_short (H : Nat → Entry) (v : c_policy_short.inp.V) (r : (p : Pat) × p.V) (h : (c_policy_short.body v).Sel H r) : fnVc (cx_policy_short) an_policy_short 0 Try.f23 c_policy_short.inp [O_policy_short] v (fun r' => r' = r) := by
  obtain ⟨p, ⟨⟩⟩ := v
  obtain ⟨h, rfl⟩ := h
  exact Eq.mpr (eq_policy_short p _) (policy_short.ok _ p h rfl)
theorem ctr_policy_short : CtrOk Try.prog 23 c_policy_short := ⟨⟨_, Try.func23, by kernel_rfl, by kernel_rfl⟩, fun H v r h => mk_ok _ (fs_policy_short) (an := an_policy_short) (outs := [O_policy_short]) Try.func23 (by decide) (vc_policy_short H v r h)⟩
abbrev I_policy_apart : Pat := { slots := [(0, .ag (.pair (.sl (.pair .str (.pair (.int .i64) (.pair (.sl .str) (.sl .str))))) (.pair (.sl .str) (.pair (.int .i64) (.int .i64)))))], ents := [] }
abbrev O_policy_apart : Pat := { slots := [(0, .ce (.v .bool))], ents := [] }
def c_policy_apart : Ctr := { k0 := 0, inp := I_policy_apart, body := fun v => .need (Sp.polOkk v.1) (.ret ⟨O_policy_apart, ((Sp.apartP v.1), ())⟩), ex := 0 }
def an_policy_apart : Ann := [(3, { slots := [(3, .ce (.os 0)), (7, .ce (.v (.sl (.pair .str (.pair (.int .i64) (.pair (.sl .str) (.sl .str))))))), (8, .ce (.v (.int .i64))), (9, .ce (.v (.int .i64)))], ents := [.row 9 .str] })]
def cx_policy_apart : Cx := mkCx [(40, [c_policy_Rule_names]), (39, [c_policy_twice])]
theorem eq_policy_apart (p : ((List (Str × (Int × ((List Str) × (List Str))))) × ((List Str) × (Int × Int)))) (R : ((p : Pat) × p.V) → Prop) : fnVc (cx_policy_apart) an_policy_apart 0 Try.f24 I_policy_apart [O_policy_apart] (p, ()) R = policy_apart.vc (fun y0 => R ⟨O_policy_apart, (y0, ())⟩) p := by kernel_rfl
theorem fs_policy_apart : CtrsOk Try.prog [(40, [c_policy_Rule_names]), (39, [c_policy_twice])] := ⟨ctr1 (ctr_policy_Rule_names), ctr1 (ctr_policy_twice), trivial⟩
theorem vc_policy_apart (H : Nat → Entry) (v : c_policy_apart.inp.V) (r : (p : Pat) × p.V) (h : (c_policy_apart.body v).Sel H r) : fnVc (cx_policy_apart) an_policy_apart 0 Try.f24 c_policy_apart.inp [O_policy_apart] v (fun r' => r' = r) := by
  obtain ⟨p, ⟨⟩⟩ := v
  obtain ⟨h, rfl⟩ := h
  exact Eq.mpr (eq_policy_apart p _) (policy_apart.ok _ p h rfl)
theorem ctr_policy_apart : CtrOk Try.prog 24 c_policy_apart := ⟨⟨_, Try.func24, by kernel_rfl, by kernel_rfl⟩, fun H v r h => mk_ok _ (fs_policy_apart) (an := an_policy_apart) (outs := [O_policy_apart]) Try.func24 (by decide) (vc_policy_apart H v r h)⟩
abbrev I_policy_formed : Pat := { slots := [(0, .ag (.pair (.sl (.pair .str (.pair (.int .i64) (.pair (.sl .str) (.sl .str))))) (.pair (.sl .str) (.pair (.int .i64) (.int .i64)))))], ents := [] }
abbrev O_policy_formed : Pat := { slots := [(0, .ce (.v .bool))], ents := [] }
def c_policy_formed : Ctr := { k0 := 0, inp := I_policy_formed, body := fun v => .need (Sp.polOkk v.1) (.ret ⟨O_policy_formed, ((Sp.formedP v.1), ())⟩), ex := 0 }
def an_policy_formed : Ann := []
def cx_policy_formed : Cx := mkCx [(41, [c_policy_formed_1]), (42, [c_Contains_odd]), (43, [c_policy_formed_2]), (37, [c_Contains_nr]), (45, [c_policy_formed_3])]
theorem eq_policy_formed (p : ((List (Str × (Int × ((List Str) × (List Str))))) × ((List Str) × (Int × Int)))) (R : ((p : Pat) × p.V) → Prop) : fnVc (cx_policy_formed) an_policy_formed 0 Try.f25 I_policy_formed [O_policy_formed] (p, ()) R = policy_formed.vc (fun y0 => R ⟨O_policy_formed, (y0, ())⟩) p := by kernel_rfl
theorem fs_policy_formed : CtrsOk Try.prog [(41, [c_policy_formed_1]), (42, [c_Contains_odd]), (43, [c_policy_formed_2]), (37, [c_Contains_nr]), (45, [c_policy_formed_3])] := ⟨ctr1 (ctr_policy_formed_1), ctr1 (ctr_Contains_odd), ctr1 (ctr_policy_formed_2), ctr1 (ctr_Contains_nr), ctr1 (ctr_policy_formed_3), trivial⟩
theorem vc_policy_formed (H : Nat → Entry) (v : c_policy_formed.inp.V) (r : (p : Pat) × p.V) (h : (c_policy_formed.body v).Sel H r) : fnVc (cx_policy_formed) an_policy_formed 0 Try.f25 c_policy_formed.inp [O_policy_formed] v (fun r' => r' = r) := by
  obtain ⟨p, ⟨⟩⟩ := v
  obtain ⟨h, rfl⟩ := h
  exact Eq.mpr (eq_policy_formed p _) (policy_formed.ok _ p h rfl)
theorem ctr_policy_formed : CtrOk Try.prog 25 c_policy_formed := ⟨⟨_, Try.func25, by kernel_rfl, by kernel_rfl⟩, fun H v r h => mk_ok _ (fs_policy_formed) (an := an_policy_formed) (outs := [O_policy_formed]) Try.func25 (by decide) (vc_policy_formed H v r h)⟩
abbrev I_policy_Check : Pat := { slots := [(0, .ag (.pair (.sl (.pair .str (.pair (.int .i64) (.pair (.sl .str) (.sl .str))))) (.pair (.sl .str) (.pair (.int .i64) (.int .i64)))))], ents := [] }
abbrev O_policy_Check : Pat := { slots := [(0, .ce (.v (.int .i64)))], ents := [] }
def c_policy_Check : Ctr := { k0 := 0, inp := I_policy_Check, body := fun v => .need (Sp.polOkk v.1) (.ret ⟨O_policy_Check, ((Sp.checkP v.1), ())⟩), ex := 0 }
def an_policy_Check : Ann := [(2, { slots := [(1, .ce (.ptr 1 0)), (8, .ce (.sb 0 3)), (9, .ce (.v (.int .i64))), (10, .ce (.v (.int .i64)))], ents := [.box 55 [.fn 23 [] [], .v (.int .i64), .fn 24 [] [], .v (.int .i64), .fn 25 [] [], .v (.int .i64)], .box 25 [.v (.sl (.pair .str (.pair (.int .i64) (.pair (.sl .str) (.sl .str))))), .v (.sl .str), .v (.int .i64), .v (.int .i64)]] })]
def cx_policy_Check : Cx := mkCx [(23, [c_policy_short]), (24, [c_policy_apart]), (25, [c_policy_formed])]
theorem eq_policy_Check (p : ((List (Str × (Int × ((List Str) × (List Str))))) × ((List Str) × (Int × Int)))) (R : ((p : Pat) × p.V) → Prop) : fnVc (cx_policy_Check) an_policy_Check 0 Try.f13 I_policy_Check [O_policy_Check] (p, ()) R = policy_Check.vc (fun y0 => R ⟨O_policy_Check, (y0, ())⟩) p := by kernel_rfl
theorem fs_policy_Check : CtrsOk Try.prog [(23, [c_policy_short]), (24, [c_policy_apart]), (25, [c_policy_formed])] := ⟨ctr1 (ctr_policy_short), ctr1 (ctr_policy_apart), ctr1 (ctr_policy_formed), trivial⟩
theorem vc_policy_Check (H : Nat → Entry) (v : c_policy_Check.inp.V) (r : (p : Pat) × p.V) (h : (c_policy_Check.body v).Sel H r) : fnVc (cx_policy_Check) an_policy_Check 0 Try.f13 c_policy_Check.inp [O_policy_Check] v (fun r' => r' = r) := by
  obtain ⟨p, ⟨⟩⟩ := v
  obtain ⟨h, rfl⟩ := h
  exact Eq.mpr (eq_policy_Check p _) (policy_Check.ok _ p h rfl)
theorem ctr_policy_Check : CtrOk Try.prog 13 c_policy_Check := ⟨⟨_, Try.func13, by kernel_rfl, by kernel_rfl⟩, fun H v r h => mk_ok _ (fs_policy_Check) (an := an_policy_Check) (outs := [O_policy_Check]) Try.func13 (by decide) (vc_policy_Check H v r h)⟩
abbrev I_policy_Plain : Pat := { slots := [], ents := [] }
abbrev O_policy_Plain : Pat := { slots := [(0, .ag (.pair (.sl (.pair .str (.pair (.int .i64) (.pair (.sl .str) (.sl .str))))) (.pair (.sl .str) (.pair (.int .i64) (.int .i64)))))], ents := [] }
def c_policy_Plain : Ctr := { k0 := 0, inp := I_policy_Plain, body := fun v => .ret ⟨O_policy_Plain, ((Sp.plainP), ())⟩, ex := 0 }
def an_policy_Plain : Ann := [(3, { slots := [(0, .ce (.ptr 0 0)), (1, .ce (.os 1)), (4, .ce (.os 2)), (5, .ce (.v (.int .i64))), (6, .ce (.v (.int .i64)))], ents := [.box 25 [.v (.sl (.pair .str (.pair (.int .i64) (.pair (.sl .str) (.sl .str))))), .v (.sl .str), .v (.int .i64), .v (.int .i64)], .row 53 (.pair .str (.pair (.int .i64) (.pair (.sl .str) (.sl .str)))), .row 9 .str] })]
def cx_policy_Plain : Cx := mkCx []
theorem eq_policy_Plain  (R : ((p : Pat) × p.V) → Prop) : fnVc (cx_policy_Plain) an_policy_Plain 0 Try.f10 I_policy_Plain [O_policy_Plain] (()) R = policy_Plain.vc (fun y0 => R ⟨O_policy_Plain, (y0, ())⟩)  := by kernel_rfl
theorem fs_policy_Plain : CtrsOk Try.prog [] := trivial
theorem vc_policy_Plain (H : Nat → Entry) (v : c_policy_Plain.inp.V) (r : (p : Pat) × p.V) (h : (c_policy_Plain.body v).Sel H r) : fnVc (cx_policy_Plain) an_policy_Plain 0 Try.f10 c_policy_Plain.inp [O_policy_Plain] v (fun r' => r' = r) := by
  obtain ⟨⟩ := v
  obtain rfl := h
  exact Eq.mpr (eq_policy_Plain  _) (policy_Plain.ok _   rfl)
theorem ctr_policy_Plain : CtrOk Try.prog 10 c_policy_Plain := ⟨⟨_, Try.func10, by kernel_rfl, by kernel_rfl⟩, fun H v r h => mk_ok _ (fs_policy_Plain) (an := an_policy_Plain) (outs := [O_policy_Plain]) Try.func10 (by decide) (vc_policy_Plain H v r h)⟩
abbrev I_policy_Policy_rule_1 : Pat := { slots := [(0, .ag (.pair .str (.pair (.int .i64) (.pair (.sl .str) (.sl .str))))), (1, .ce (.ptr 0 0))], ents := [.box 9 [.v .str]] }
abbrev O_policy_Policy_rule_1 : Pat := { slots := [(0, .ce (.v .bool))], ents := [.box 9 [.v .str]] }
def c_policy_Policy_rule_1 : Ctr := { k0 := 1, inp := I_policy_Policy_rule_1, body := fun v => .ret ⟨O_policy_Policy_rule_1, (Sp.hasN v.1 v.2.1, v.2.1, ())⟩, ex := 0 }
def an_policy_Policy_rule_1 : Ann := []
def cx_policy_Policy_rule_1 : Cx := mkCx []
theorem eq_policy_Policy_rule_1 (r : (Str × (Int × ((List Str) × (List Str))))) (name : Str) (R : ((p : Pat) × p.V) → Prop) : fnVc (cx_policy_Policy_rule_1) an_policy_Policy_rule_1 1 Try.f63 I_policy_Policy_rule_1 [O_policy_Policy_rule_1] (r, name, ()) R = policy_Policy_rule_1.vc (fun y0 y1 => R ⟨O_policy_Policy_rule_1, (y0, y1, ())⟩) r name := by kernel_rfl
theorem fs_policy_Policy_rule_1 : CtrsOk Try.prog [] := trivial
theorem vc_policy_Policy_rule_1 (H : Nat → Entry) (v : c_policy_Policy_rule_1.inp.V) (r : (p : Pat) × p.V) (h : (c_policy_Policy_rule_1.body v).Sel H r) : fnVc (cx_policy_Policy_rule_1) an_policy_Policy_rule_1 1 Try.f63 c_policy_Policy_rule_1.inp [O_policy_Policy_rule_1] v (fun r' => r' = r) := by
  obtain ⟨r, name, ⟨⟩⟩ := v
  obtain rfl := h
  exact Eq.mpr (eq_policy_Policy_rule_1 r name _) (policy_Policy_rule_1.ok _ r name  rfl)
theorem ctr_policy_Policy_rule_1 : CtrOk Try.prog 63 c_policy_Policy_rule_1 := ⟨⟨_, Try.func63, by kernel_rfl, by kernel_rfl⟩, fun H v r h => mk_ok _ (fs_policy_Policy_rule_1) (an := an_policy_Policy_rule_1) (outs := [O_policy_Policy_rule_1]) Try.func63 (by decide) (vc_policy_Policy_rule_1 H v r h)⟩
abbrev I_Index_rule : Pat := { slots := [(0, .ce (.v (.sl (.pair .str (.pair (.int .i64) (.pair (.sl .str) (.sl .str))))))), (1, .ce (.fn 63 [] [0]))], ents := [.box 9 [.v .str]] }
abbrev O_Index_rule : Pat := { slots := [(0, .ce (.v (.int .i64)))], ents := [.box 9 [.v .str]] }
def c_Index_rule : Ctr := { k0 := 1, inp := I_Index_rule, body := fun v => .need (Sp.rules.pre v.1) (.ret ⟨O_Index_rule, (Sp.idxR v.1 v.2.1, v.2.1, ())⟩), ex := 0 }
def an_Index_rule : Ann := [(2, { slots := [(0, .ce (.v (.sl (.pair .str (.pair (.int .i64) (.pair (.sl .str) (.sl .str))))))), (1, .ce (.fn 63 [] [0])), (7, .ce (.v (.int .i64))), (8, .ce (.v (.int .i64)))], ents := [.box 9 [.v .str]] })]
def cx_Index_rule : Cx := mkCx [(63, [c_policy_Policy_rule_1])]
theorem eq_Index_rule (l : (List (Str × (Int × ((List Str) × (List Str)))))) (name : Str) (R : ((p : Pat) × p.V) → Prop) : fnVc (cx_Index_rule) an_Index_rule 1 Try.f56 I_Index_rule [O_Index_rule] (l, name, ()) R = Index_rule.vc (fun y0 y1 => R ⟨O_Index_rule, (y0, y1, ())⟩) l name := by kernel_rfl
theorem fs_Index_rule : CtrsOk Try.prog [(63, [c_policy_Policy_rule_1])] := ⟨ctr1 (ctr_policy_Policy_rule_1), trivial⟩
theorem vc_Index_rule (H : Nat → Entry) (v : c_Index_rule.inp.V) (r : (p : Pat) × p.V) (h : (c_Index_rule.body v).Sel H r) : fnVc (cx_Index_rule) an_Index_rule 1 Try.f56 c_Index_rule.inp [O_Index_rule] v (fun r' => r' = r) := by
  obtain ⟨l, name, ⟨⟩⟩ := v
  obtain ⟨h, rfl⟩ := h
  exact Eq.mpr (eq_Index_rule l name _) (Index_rule.ok _ l name h rfl)
theorem ctr_Index_rule : CtrOk Try.prog 56 c_Index_rule := ⟨⟨_, Try.func56, by kernel_rfl, by kernel_rfl⟩, fun H v r h => mk_ok _ (fs_Index_rule) (an := an_Index_rule) (outs := [O_Index_rule]) Try.func56 (by decide) (vc_Index_rule H v r h)⟩
abbrev I_policy_Policy_rule : Pat := { slots := [(0, .ag (.pair (.sl (.pair .str (.pair (.int .i64) (.pair (.sl .str) (.sl .str))))) (.pair (.sl .str) (.pair (.int .i64) (.int .i64))))), (1, .ce (.v .str))], ents := [] }
abbrev O_policy_Policy_rule : Pat := { slots := [(0, .ag (.pair .str (.pair (.int .i64) (.pair (.sl .str) (.sl .str)))))], ents := [] }
def c_policy_Policy_rule : Ctr := { k0 := 0, inp := I_policy_Policy_rule, body := fun v => .need (Sp.ruleP.pre v.1 v.2.1) (.ret ⟨O_policy_Policy_rule, ((Sp.ruleP v.1 v.2.1), ())⟩), ex := 0 }
def an_policy_Policy_rule : Ann := []
def cx_policy_Policy_rule : Cx := mkCx [(56, [c_Index_rule])]
theorem eq_policy_Policy_rule (p : ((List (Str × (Int × ((List Str) × (List Str))))) × ((List Str) × (Int × Int)))) (name : Str) (R : ((p : Pat) × p.V) → Prop) : fnVc (cx_policy_Policy_rule) an_policy_Policy_rule 0 Try.f50 I_policy_Policy_rule [O_policy_Policy_rule] (p, name, ()) R = policy_Policy_rule.vc (fun y0 => R ⟨O_policy_Policy_rule, (y0, ())⟩) p name := by kernel_rfl
theorem fs_policy_Policy_rule : CtrsOk Try.prog [(56, [c_Index_rule])] := ⟨ctr1 (ctr_Index_rule), trivial⟩
theorem vc_policy_Policy_rule (H : Nat → Entry) (v : c_policy_Policy_rule.inp.V) (r : (p : Pat) × p.V) (h : (c_policy_Policy_rule.body v).Sel H r) : fnVc (cx_policy_Policy_rule) an_policy_Policy_rule 0 Try.f50 c_policy_Policy_rule.inp [O_policy_Policy_rule] v (fun r' => r' = r) := by
  obtain ⟨p, name, ⟨⟩⟩ := v
  obtain ⟨h, rfl⟩ := h
  exact Eq.mpr (eq_policy_Policy_rule p name _) (policy_Policy_rule.ok _ p name h rfl)
theorem ctr_policy_Policy_rule : CtrOk Try.prog 50 c_policy_Policy_rule := ⟨⟨_, Try.func50, by kernel_rfl, by kernel_rfl⟩, fun H v r h => mk_ok _ (fs_policy_Policy_rule) (an := an_policy_Policy_rule) (outs := [O_policy_Policy_rule]) Try.func50 (by decide) (vc_policy_Policy_rule H v r h)⟩
abbrev I_policy_Policy_act : Pat := { slots := [(0, .ag (.pair (.sl (.pair .str (.pair (.int .i64) (.pair (.sl .str) (.sl .str))))) (.pair (.sl .str) (.pair (.int .i64) (.int .i64))))), (1, .ce (.v (.int .i64))), (2, .ce (.v .str))], ents := [] }
abbrev O_policy_Policy_act : Pat := { slots := [(0, .ce (.v (.int .i64)))], ents := [] }
def c_policy_Policy_act : Ctr := { k0 := 0, inp := I_policy_Policy_act, body := fun v => .need (Sp.actP.pre v.1 v.2.1 v.2.2.1) (.ret ⟨O_policy_Policy_act, ((Sp.actP v.1 v.2.1 v.2.2.1), ())⟩), ex := 0 }
def an_policy_Policy_act : Ann := []
def cx_policy_Policy_act : Cx := mkCx [(50, [c_policy_Policy_rule])]
theorem eq_policy_Policy_act (p : ((List (Str × (Int × ((List Str) × (List Str))))) × ((List Str) × (Int × Int)))) (space : Int) (name : Str) (R : ((p : Pat) × p.V) → Prop) : fnVc (cx_policy_Policy_act) an_policy_Policy_act 0 Try.f29 I_policy_Policy_act [O_policy_Policy_act] (p, space, name, ()) R = policy_Policy_act.vc (fun y0 => R ⟨O_policy_Policy_act, (y0, ())⟩) p space name := by kernel_rfl
theorem fs_policy_Policy_act : CtrsOk Try.prog [(50, [c_policy_Policy_rule])] := ⟨ctr1 (ctr_policy_Policy_rule), trivial⟩
theorem vc_policy_Policy_act (H : Nat → Entry) (v : c_policy_Policy_act.inp.V) (r : (p : Pat) × p.V) (h : (c_policy_Policy_act.body v).Sel H r) : fnVc (cx_policy_Policy_act) an_policy_Policy_act 0 Try.f29 c_policy_Policy_act.inp [O_policy_Policy_act] v (fun r' => r' = r) := by
  obtain ⟨p, space, name, ⟨⟩⟩ := v
  obtain ⟨h, rfl⟩ := h
  exact Eq.mpr (eq_policy_Policy_act p space name _) (policy_Policy_act.ok _ p space name h rfl)
theorem ctr_policy_Policy_act : CtrOk Try.prog 29 c_policy_Policy_act := ⟨⟨_, Try.func29, by kernel_rfl, by kernel_rfl⟩, fun H v r h => mk_ok _ (fs_policy_Policy_act) (an := an_policy_Policy_act) (outs := [O_policy_Policy_act]) Try.func29 (by decide) (vc_policy_Policy_act H v r h)⟩
abbrev I_policy_Policy_stays : Pat := { slots := [(0, .ag (.pair (.sl (.pair .str (.pair (.int .i64) (.pair (.sl .str) (.sl .str))))) (.pair (.sl .str) (.pair (.int .i64) (.int .i64))))), (1, .ce (.v .str)), (2, .ag (.pair .str .str))], ents := [] }
abbrev O_policy_Policy_stays : Pat := { slots := [(0, .ce (.v .bool))], ents := [] }
def c_policy_Policy_stays : Ctr := { k0 := 0, inp := I_policy_Policy_stays, body := fun v => .need (Sp.staysP.pre v.1 v.2.1 v.2.2.1) (.ret ⟨O_policy_Policy_stays, ((Sp.staysP v.1 v.2.1 v.2.2.1), ())⟩), ex := 0 }
def an_policy_Policy_stays : Ann := []
def cx_policy_Policy_stays : Cx := mkCx [(50, [c_policy_Policy_rule]), (51, [c_slices_Contains_string_string]), (52, [c_urls_Safe])]
theorem eq_policy_Policy_stays (p : ((List (Str × (Int × ((List Str) × (List Str))))) × ((List Str) × (Int × Int)))) (name : Str) (a : (Str × Str)) (R : ((p : Pat) × p.V) → Prop) : fnVc (cx_policy_Policy_stays) an_policy_Policy_stays 0 Try.f30 I_policy_Policy_stays [O_policy_Policy_stays] (p, name, a, ()) R = policy_Policy_stays.vc (fun y0 => R ⟨O_policy_Policy_stays, (y0, ())⟩) p name a := by kernel_rfl
theorem fs_policy_Policy_stays : CtrsOk Try.prog [(50, [c_policy_Policy_rule]), (51, [c_slices_Contains_string_string]), (52, [c_urls_Safe])] := ⟨ctr1 (ctr_policy_Policy_rule), ctr1 (ctr_slices_Contains_string_string), ctr1 (ctr_urls_Safe), trivial⟩
theorem vc_policy_Policy_stays (H : Nat → Entry) (v : c_policy_Policy_stays.inp.V) (r : (p : Pat) × p.V) (h : (c_policy_Policy_stays.body v).Sel H r) : fnVc (cx_policy_Policy_stays) an_policy_Policy_stays 0 Try.f30 c_policy_Policy_stays.inp [O_policy_Policy_stays] v (fun r' => r' = r) := by
  obtain ⟨p, name, a, ⟨⟩⟩ := v
  obtain ⟨h, rfl⟩ := h
  exact Eq.mpr (eq_policy_Policy_stays p name a _) (policy_Policy_stays.ok _ p name a h rfl)
theorem ctr_policy_Policy_stays : CtrOk Try.prog 30 c_policy_Policy_stays := ⟨⟨_, Try.func30, by kernel_rfl, by kernel_rfl⟩, fun H v r h => mk_ok _ (fs_policy_Policy_stays) (an := an_policy_Policy_stays) (outs := [O_policy_Policy_stays]) Try.func30 (by decide) (vc_policy_Policy_stays H v r h)⟩
abbrev I_policy_Act : Pat := { slots := [(0, .ag (.pair (.sl (.pair .str (.pair (.int .i64) (.pair (.sl .str) (.sl .str))))) (.pair (.sl .str) (.pair (.int .i64) (.int .i64))))), (1, .ce (.v (.int .i64))), (2, .ce (.v .str))], ents := [] }
abbrev O_policy_Act : Pat := { slots := [(0, .ce (.v (.int .i64)))], ents := [] }
def c_policy_Act : Ctr := { k0 := 0, inp := I_policy_Act, body := fun v => .need (Sp.actC.pre v.1 v.2.1 v.2.2.1) (.ret ⟨O_policy_Act, ((Sp.actC v.1 v.2.1 v.2.2.1), ())⟩), ex := 0 }
def an_policy_Act : Ann := []
def cx_policy_Act : Cx := mkCx [(13, [c_policy_Check]), (29, [c_policy_Policy_act])]
theorem eq_policy_Act (p : ((List (Str × (Int × ((List Str) × (List Str))))) × ((List Str) × (Int × Int)))) (space : Int) (name : Str) (R : ((p : Pat) × p.V) → Prop) : fnVc (cx_policy_Act) an_policy_Act 0 Try.f15 I_policy_Act [O_policy_Act] (p, space, name, ()) R = policy_Act.vc (fun y0 => R ⟨O_policy_Act, (y0, ())⟩) p space name := by kernel_rfl
theorem fs_policy_Act : CtrsOk Try.prog [(13, [c_policy_Check]), (29, [c_policy_Policy_act])] := ⟨ctr1 (ctr_policy_Check), ctr1 (ctr_policy_Policy_act), trivial⟩
theorem vc_policy_Act (H : Nat → Entry) (v : c_policy_Act.inp.V) (r : (p : Pat) × p.V) (h : (c_policy_Act.body v).Sel H r) : fnVc (cx_policy_Act) an_policy_Act 0 Try.f15 c_policy_Act.inp [O_policy_Act] v (fun r' => r' = r) := by
  obtain ⟨p, space, name, ⟨⟩⟩ := v
  obtain ⟨h, rfl⟩ := h
  exact Eq.mpr (eq_policy_Act p space name _) (policy_Act.ok _ p space name h rfl)
theorem ctr_policy_Act : CtrOk Try.prog 15 c_policy_Act := ⟨⟨_, Try.func15, by kernel_rfl, by kernel_rfl⟩, fun H v r h => mk_ok _ (fs_policy_Act) (an := an_policy_Act) (outs := [O_policy_Act]) Try.func15 (by decide) (vc_policy_Act H v r h)⟩
abbrev I_policy_Stays : Pat := { slots := [(0, .ag (.pair (.sl (.pair .str (.pair (.int .i64) (.pair (.sl .str) (.sl .str))))) (.pair (.sl .str) (.pair (.int .i64) (.int .i64))))), (1, .ce (.v .str)), (2, .ag (.pair .str .str))], ents := [] }
abbrev O_policy_Stays : Pat := { slots := [(0, .ce (.v .bool))], ents := [] }
def c_policy_Stays : Ctr := { k0 := 0, inp := I_policy_Stays, body := fun v => .need (Sp.staysC.pre v.1 v.2.1 v.2.2.1) (.ret ⟨O_policy_Stays, ((Sp.staysC v.1 v.2.1 v.2.2.1), ())⟩), ex := 0 }
def an_policy_Stays : Ann := []
def cx_policy_Stays : Cx := mkCx [(13, [c_policy_Check]), (30, [c_policy_Policy_stays])]
theorem eq_policy_Stays (p : ((List (Str × (Int × ((List Str) × (List Str))))) × ((List Str) × (Int × Int)))) (name : Str) (a : (Str × Str)) (R : ((p : Pat) × p.V) → Prop) : fnVc (cx_policy_Stays) an_policy_Stays 0 Try.f16 I_policy_Stays [O_policy_Stays] (p, name, a, ()) R = policy_Stays.vc (fun y0 => R ⟨O_policy_Stays, (y0, ())⟩) p name a := by kernel_rfl
theorem fs_policy_Stays : CtrsOk Try.prog [(13, [c_policy_Check]), (30, [c_policy_Policy_stays])] := ⟨ctr1 (ctr_policy_Check), ctr1 (ctr_policy_Policy_stays), trivial⟩
theorem vc_policy_Stays (H : Nat → Entry) (v : c_policy_Stays.inp.V) (r : (p : Pat) × p.V) (h : (c_policy_Stays.body v).Sel H r) : fnVc (cx_policy_Stays) an_policy_Stays 0 Try.f16 c_policy_Stays.inp [O_policy_Stays] v (fun r' => r' = r) := by
  obtain ⟨p, name, a, ⟨⟩⟩ := v
  obtain ⟨h, rfl⟩ := h
  exact Eq.mpr (eq_policy_Stays p name a _) (policy_Stays.ok _ p name a h rfl)
theorem ctr_policy_Stays : CtrOk Try.prog 16 c_policy_Stays := ⟨⟨_, Try.func16, by kernel_rfl, by kernel_rfl⟩, fun H v r h => mk_ok _ (fs_policy_Stays) (an := an_policy_Stays) (outs := [O_policy_Stays]) Try.func16 (by decide) (vc_policy_Stays H v r h)⟩
abbrev I_policy_Policy_allows_1 : Pat := { slots := [(0, .ag (.pair .str .str)), (1, .ce (.ptr 0 0)), (2, .ce (.ptr 1 0))], ents := [.box 25 [.v (.sl (.pair .str (.pair (.int .i64) (.pair (.sl .str) (.sl .str))))), .v (.sl .str), .v (.int .i64), .v (.int .i64)], .box 43 [.v (.int .i64), .v (.int .i64), .v .str, .v (.sl (.pair .str .str)), .v .str, .v (.sl .node)]] }
abbrev O_policy_Policy_allows_1 : Pat := { slots := [(0, .ce (.v .bool))], ents := [.box 25 [.v (.sl (.pair .str (.pair (.int .i64) (.pair (.sl .str) (.sl .str))))), .v (.sl .str), .v (.int .i64), .v (.int .i64)], .box 43 [.v (.int .i64), .v (.int .i64), .v .str, .v (.sl (.pair .str .str)), .v .str, .v (.sl .node)]] }
def c_policy_Policy_allows_1 : Ctr := { k0 := 2, inp := I_policy_Policy_allows_1, body := fun v => .need (Sp.staysP.pre (v.2.1, v.2.2.1, v.2.2.2.1, v.2.2.2.2.1) (Vi.Node.mk v.2.2.2.2.2.1 v.2.2.2.2.2.2.1 v.2.2.2.2.2.2.2.1 v.2.2.2.2.2.2.2.2.1 v.2.2.2.2.2.2.2.2.2.1 v.2.2.2.2.2.2.2.2.2.2.1).name v.1) (.ret ⟨O_policy_Policy_allows_1, (Sp.notStays v.1 (v.2.1, v.2.2.1, v.2.2.2.1, v.2.2.2.2.1) (Vi.Node.mk v.2.2.2.2.2.1 v.2.2.2.2.2.2.1 v.2.2.2.2.2.2.2.1 v.2.2.2.2.2.2.2.2.1 v.2.2.2.2.2.2.2.2.2.1 v.2.2.2.2.2.2.2.2.2.2.1), v.2.1, v.2.2.1, v.2.2.2.1, v.2.2.2.2.1, v.2.2.2.2.2.1, v.2.2.2.2.2.2.1, v.2.2.2.2.2.2.2.1, v.2.2.2.2.2.2.2.2.1, v.2.2.2.2.2.2.2.2.2.1, v.2.2.2.2.2.2.2.2.2.2.1, ())⟩), ex := 0 }
def an_policy_Policy_allows_1 : Ann := []
def cx_policy_Policy_allows_1 : Cx := mkCx [(30, [c_policy_Policy_stays])]
theorem eq_policy_Policy_allows_1 (a : (Str × Str)) (rules : (List (Str × (Int × ((List Str) × (List Str)))))) (schemes : (List Str)) (others : Int) (strange : Int) (kind : Int) (space : Int) (nname : Str) (attrs : (List (Str × Str))) (text : Str) (kids : (List Vi.Node)) (R : ((p : Pat) × p.V) → Prop) : fnVc (cx_policy_Policy_allows_1) an_policy_Policy_allows_1 2 Try.f69 I_policy_Policy_allows_1 [O_policy_Policy_allows_1] (a, rules, schemes, others, strange, kind, space, nname, attrs, text, kids, ()) R = policy_Policy_allows_1.vc (fun y0 y1 y2 y3 y4 y5 y6 y7 y8 y9 y10 => R ⟨O_policy_Policy_allows_1, (y0, y1, y2, y3, y4, y5, y6, y7, y8, y9, y10, ())⟩) a rules schemes others strange kind space nname attrs text kids := by kernel_rfl
theorem fs_policy_Policy_allows_1 : CtrsOk Try.prog [(30, [c_policy_Policy_stays])] := ⟨ctr1 (ctr_policy_Policy_stays), trivial⟩
theorem vc_policy_Policy_allows_1 (H : Nat → Entry) (v : c_policy_Policy_allows_1.inp.V) (r : (p : Pat) × p.V) (h : (c_policy_Policy_allows_1.body v).Sel H r) : fnVc (cx_policy_Policy_allows_1) an_policy_Policy_allows_1 2 Try.f69 c_policy_Policy_allows_1.inp [O_policy_Policy_allows_1] v (fun r' => r' = r) := by
  obtain ⟨a, rules, schemes, others, strange, kind, space, nname, attrs, text, kids, ⟨⟩⟩ := v
  obtain ⟨h, rfl⟩ := h
  exact Eq.mpr (eq_policy_Policy_allows_1 a rules schemes others strange kind space nname attrs text kids _) (policy_Policy_allows_1.ok _ a rules schemes others strange kind space nname attrs text kids h rfl)
theorem ctr_policy_Policy_allows_1 : CtrOk Try.prog 69 c_policy_Policy_allows_1 := ⟨⟨_, Try.func69, by kernel_rfl, by kernel_rfl⟩, fun H v r h => mk_ok _ (fs_policy_Policy_allows_1) (an := an_policy_Policy_allows_1) (outs := [O_policy_Policy_allows_1]) Try.func69 (by decide) (vc_policy_Policy_allows_1 H v r h)⟩
abbrev I_Index_attr : Pat := { slots := [(0, .ce (.v (.sl (.pair .str .str)))), (1, .ce (.fn 69 [] [0, 1]))], ents := [.box 25 [.v (.sl (.pair .str (.pair (.int .i64) (.pair (.sl .str) (.sl .str))))), .v (.sl .str), .v (.int .i64), .v (.int .i64)], .box 43 [.v (.int .i64), .v (.int .i64), .v .str, .v (.sl (.pair .str .str)), .v .str, .v (.sl .node)]] }
abbrev O_Index_attr : Pat := { slots := [(0, .ce (.v (.int .i64)))], ents := [.box 25 [.v (.sl (.pair .str (.pair (.int .i64) (.pair (.sl .str) (.sl .str))))), .v (.sl .str), .v (.int .i64), .v (.int .i64)], .box 43 [.v (.int .i64), .v (.int .i64), .v .str, .v (.sl (.pair .str .str)), .v .str, .v (.sl .node)]] }
def c_Index_attr : Ctr := { k0 := 2, inp := I_Index_attr, body := fun v => .need (Sp.polOk (v.2.1, v.2.2.1, v.2.2.2.1, v.2.2.2.2.1) ∧ Sp.attrsOk v.1) (.ret ⟨O_Index_attr, (Sp.idxAt v.1 (v.2.1, v.2.2.1, v.2.2.2.1, v.2.2.2.2.1) (Vi.Node.mk v.2.2.2.2.2.1 v.2.2.2.2.2.2.1 v.2.2.2.2.2.2.2.1 v.2.2.2.2.2.2.2.2.1 v.2.2.2.2.2.2.2.2.2.1 v.2.2.2.2.2.2.2.2.2.2.1), v.2.1, v.2.2.1, v.2.2.2.1, v.2.2.2.2.1, v.2.2.2.2.2.1, v.2.2.2.2.2.2.1, v.2.2.2.2.2.2.2.1, v.2.2.2.2.2.2.2.2.1, v.2.2.2.2.2.2.2.2.2.1, v.2.2.2.2.2.2.2.2.2.2.1, ())⟩), ex := 0 }
def an_Index_attr : Ann := [(2, { slots := [(0, .ce (.v (.sl (.pair .str .str)))), (1, .ce (.fn 69 [] [0, 1])), (7, .ce (.v (.int .i64))), (8, .ce (.v (.int .i64)))], ents := [.box 25 [.v (.sl (.pair .str (.pair (.int .i64) (.pair (.sl .str) (.sl .str))))), .v (.sl .str), .v (.int .i64), .v (.int .i64)], .box 43 [.v (.int .i64), .v (.int .i64), .v .str, .v (.sl (.pair .str .str)), .v .str, .v (.sl .node)]] })]
def cx_Index_attr : Cx := mkCx [(69, [c_policy_Policy_allows_1])]
theorem eq_Index_attr (l : (List (Str × Str))) (rules : (List (Str × (Int × ((List Str) × (List Str)))))) (schemes : (List Str)) (others : Int) (strange : Int) (kind : Int) (space : Int) (nname : Str) (attrs : (List (Str × Str))) (text : Str) (kids : (List Vi.Node)) (R : ((p : Pat) × p.V) → Prop) : fnVc (cx_Index_attr) an_Index_attr 2 Try.f83 I_Index_attr [O_Index_attr] (l, rules, schemes, others, strange, kind, space, nname, attrs, text, kids, ()) R = Index_attr.vc (fun y0 y1 y2 y3 y4 y5 y6 y7 y8 y9 y10 => R ⟨O_Index_attr, (y0, y1, y2, y3, y4, y5, y6, y7, y8, y9, y10, ())⟩) l rules schemes others strange kind space nname attrs text kids := by kernel_rfl
theorem fs_Index_attr : CtrsOk Try.prog [(69, [c_policy_Policy_allows_1])] := ⟨ctr1 (ctr_policy_Policy_allows_1), trivial⟩
theorem vc_Index_attr (H : Nat → Entry) (v : c_Index_attr.inp.V) (r : (p : Pat) × p.V) (h : (c_Index_attr.body v).Sel H r) : fnVc (cx_Index_attr) an_Index_attr 2 Try.f83 c_Index_attr.inp [O_Index_attr] v (fun r' => r' = r) := by
  obtain ⟨l, rules, schemes, others, strange, kind, space, nname, attrs, text, kids, ⟨⟩⟩ := v
  obtain ⟨h, rfl⟩ := h
  exact Eq.mpr (eq_Index_attr l rules schemes others strange kind space nname attrs text kids _) (Index_attr.ok _ l rules schemes others strange kind space nname attrs text kids h rfl)
theorem ctr_Index_attr : CtrOk Try.prog 83 c_Index_attr := ⟨⟨_, Try.func83, by kernel_rfl, by kernel_rfl⟩, fun H v r h => mk_ok _ (fs_Index_attr) (an := an_Index_attr) (outs := [O_Index_attr]) Try.func83 (by decide) (vc_Index_attr H v r h)⟩
abbrev I_Contains_attr : Pat := { slots := [(0, .ce (.v (.sl (.pair .str .str)))), (1, .ce (.fn 69 [] [0, 1]))], ents := [.box 25 [.v (.sl (.pair .str (.pair (.int .i64) (.pair (.sl .str) (.sl .str))))), .v (.sl .str), .v (.int .i64), .v (.int .i64)], .box 43 [.v (.int .i64), .v (.int .i64), .v .str, .v (.sl (.pair .str .str)), .v .str, .v (.sl .node)]] }
abbrev O_Contains_attr : Pat := { slots := [(0, .ce (.v .bool))], ents := [.box 25 [.v (.sl (.pair .str (.pair (.int .i64) (.pair (.sl .str) (.sl .str))))), .v (.sl .str), .v (.int .i64), .v (.int .i64)], .box 43 [.v (.int .i64), .v (.int .i64), .v .str, .v (.sl (.pair .str .str)), .v .str, .v (.sl .node)]] }
def c_Contains_attr : Ctr := { k0 := 2, inp := I_Contains_attr, body := fun v => .need (Sp.polOk (v.2.1, v.2.2.1, v.2.2.2.1, v.2.2.2.2.1) ∧ Sp.attrsOk v.1) (.ret ⟨O_Contains_attr, (Sp.anyAt v.1 (v.2.1, v.2.2.1, v.2.2.2.1, v.2.2.2.2.1) (Vi.Node.mk v.2.2.2.2.2.1 v.2.2.2.2.2.2.1 v.2.2.2.2.2.2.2.1 v.2.2.2.2.2.2.2.2.1 v.2.2.2.2.2.2.2.2.2.1 v.2.2.2.2.2.2.2.2.2.2.1), v.2.1, v.2.2.1, v.2.2.2.1, v.2.2.2.2.1, v.2.2.2.2.2.1, v.2.2.2.2.2.2.1, v.2.2.2.2.2.2.2.1, v.2.2.2.2.2.2.2.2.1, v.2.2.2.2.2.2.2.2.2.1, v.2.2.2.2.2.2.2.2.2.2.1, ())⟩), ex := 0 }
def an_Contains_attr : Ann := []
def cx_Contains_attr : Cx := mkCx [(83, [c_Index_attr])]
theorem eq_Contains_attr (l : (List (Str × Str))) (rules : (List (Str × (Int × ((List Str) × (List Str)))))) (schemes : (List Str)) (others : Int) (strange : Int) (kind : Int) (space : Int) (nname : Str) (attrs : (List (Str × Str))) (text : Str) (kids : (List Vi.Node)) (R : ((p : Pat) × p.V) → Prop) : fnVc (cx_Contains_attr) an_Contains_attr 2 Try.f68 I_Contains_attr [O_Contains_attr] (l, rules, schemes, others, strange, kind, space, nname, attrs, text, kids, ()) R = Contains_attr.vc (fun y0 y1 y2 y3 y4 y5 y6 y7 y8 y9 y10 => R ⟨O_Contains_attr, (y0, y1, y2, y3, y4, y5, y6, y7, y8, y9, y10, ())⟩) l rules schemes others strange kind space nname attrs text kids := by kernel_rfl
theorem fs_Contains_attr : CtrsOk Try.prog [(83, [c_Index_attr])] := ⟨ctr1 (ctr_Index_attr), trivial⟩
theorem vc_Contains_attr (H : Nat → Entry) (v : c_Contains_attr.inp.V) (r : (p : Pat) × p.V) (h : (c_Contains_attr.body v).Sel H r) : fnVc (cx_Contains_attr) an_Contains_attr 2 Try.f68 c_Contains_attr.inp [O_Contains_attr] v (fun r' => r' = r) := by
  obtain ⟨l, rules, schemes, others, strange, kind, space, nname, attrs, text, kids, ⟨⟩⟩ := v
  obtain ⟨h, rfl⟩ := h
  exact Eq.mpr (eq_Contains_attr l rules schemes others strange kind space nname attrs text kids _) (Contains_attr.ok _ l rules schemes others strange kind space nname attrs text kids h rfl)
theorem ctr_Contains_attr : CtrOk Try.prog 68 c_Contains_attr := ⟨⟨_, Try.func68, by kernel_rfl, by kernel_rfl⟩, fun H v r h => mk_ok _ (fs_Contains_attr) (an := an_Contains_attr) (outs := [O_Contains_attr]) Try.func68 (by decide) (vc_Contains_attr H v r h)⟩
abbrev I_policy_Policy_allows : Pat := { slots := [(0, .ag (.pair (.sl (.pair .str (.pair (.int .i64) (.pair (.sl .str) (.sl .str))))) (.pair (.sl .str) (.pair (.int .i64) (.int .i64))))), (1, .ag .node)], ents := [] }
abbrev O_policy_Policy_allows : Pat := { slots := [(0, .ce (.v .bool))], ents := [] }
def c_policy_Policy_allows : Ctr := { k0 := 0, inp := I_policy_Policy_allows, body := fun v => .need (Sp.allowsN.pre v.1 v.2.1) (.ret ⟨O_policy_Policy_allows, ((Sp.allowsN v.1 v.2.1), ())⟩), ex := 0 }
def an_policy_Policy_allows : Ann := []
def cx_policy_Policy_allows : Cx := mkCx [(68, [c_Contains_attr]), (29, [c_policy_Policy_act])]
theorem eq_policy_Policy_allows (p : ((List (Str × (Int × ((List Str) × (List Str))))) × ((List Str) × (Int × Int)))) (n : Vi.Node) (R : ((p : Pat) × p.V) → Prop) : fnVc (cx_policy_Policy_allows) an_policy_Policy_allows 0 Try.f54 I_policy_Policy_allows [O_policy_Policy_allows] (p, n, ()) R = policy_Policy_allows.vc (fun y0 => R ⟨O_policy_Policy_allows, (y0, ())⟩) p n := by kernel_rfl
theorem fs_policy_Policy_allows : CtrsOk Try.prog [(68, [c_Contains_attr]), (29, [c_policy_Policy_act])] := ⟨ctr1 (ctr_Contains_attr), ctr1 (ctr_policy_Policy_act), trivial⟩
theorem vc_policy_Policy_allows (H : Nat → Entry) (v : c_policy_Policy_allows.inp.V) (r : (p : Pat) × p.V) (h : (c_policy_Policy_allows.body v).Sel H r) : fnVc (cx_policy_Policy_allows) an_policy_Policy_allows 0 Try.f54 c_policy_Policy_allows.inp [O_policy_Policy_allows] v (fun r' => r' = r) := by
  obtain ⟨p, n, ⟨⟩⟩ := v
  obtain ⟨h, rfl⟩ := h
  exact Eq.mpr (eq_policy_Policy_allows p n _) (policy_Policy_allows.ok _ p n h rfl)
theorem ctr_policy_Policy_allows : CtrOk Try.prog 54 c_policy_Policy_allows := ⟨⟨_, Try.func54, by kernel_rfl, by kernel_rfl⟩, fun H v r h => mk_ok _ (fs_policy_Policy_allows) (an := an_policy_Policy_allows) (outs := [O_policy_Policy_allows]) Try.func54 (by decide) (vc_policy_Policy_allows H v r h)⟩
abbrev I_policy_Policy_first : Pat := { slots := [(0, .ag (.pair (.sl (.pair .str (.pair (.int .i64) (.pair (.sl .str) (.sl .str))))) (.pair (.sl .str) (.pair (.int .i64) (.int .i64))))), (1, .ce (.v (.sl .node)))], ents := [] }
abbrev O_policy_Policy_first : Pat := { slots := [(0, .ag .node), (1, .ce (.v .bool))], ents := [] }
def r_policy_Policy_first (nn : Nat) : Ctr := { k0 := 0, inp := I_policy_Policy_first, body := fun v => .need (Sp.fiL.pre v.1 v.2.1 ∧ Sp.mFi v.1 v.2.1 < nn) (.ret ⟨O_policy_Policy_first, ((Sp.fiL v.1 v.2.1).1, (Sp.fiL v.1 v.2.1).2, ())⟩), ex := 0 }
def c_policy_Policy_first : Ctr := { k0 := 0, inp := I_policy_Policy_first, body := fun v => .need (Sp.fiL.pre v.1 v.2.1) (.ret ⟨O_policy_Policy_first, ((Sp.fiL v.1 v.2.1).1, (Sp.fiL v.1 v.2.1).2, ())⟩), ex := 0 }
def an_policy_Policy_first : Ann := [(2, { slots := [(2, .ce (.ptr 0 0)), (4, .ce (.ptr 1 0)), (10, .ce (.v (.sl .node))), (11, .ce (.v (.int .i64))), (12, .ce (.v (.int .i64)))], ents := [.box 25 [.v (.sl (.pair .str (.pair (.int .i64) (.pair (.sl .str) (.sl .str))))), .v (.sl .str), .v (.int .i64), .v (.int .i64)], .box 43 [.v (.int .i64), .v (.int .i64), .v .str, .v (.sl (.pair .str .str)), .v .str, .v (.sl .node)]] })]
def cx_policy_Policy_first (nn : Nat) : Cx := mkCx [(54, [c_policy_Policy_allows]), (35, [r_policy_Policy_first nn])]
theorem eq_policy_Policy_first (nn : Nat) (p : ((List (Str × (Int × ((List Str) × (List Str))))) × ((List Str) × (Int × Int)))) (l : (List Vi.Node)) (R : ((p : Pat) × p.V) → Prop) : fnVc (cx_policy_Policy_first nn) an_policy_Policy_first 0 Try.f35 I_policy_Policy_first [O_policy_Policy_first] (p, l, ()) R = policy_Policy_first.vc (fun y0 y1 => R ⟨O_policy_Policy_first, (y0, y1, ())⟩) nn p l := by kernel_rfl
theorem fs_policy_Policy_first (nn : Nat) (ih_policy_Policy_first : CtrOk Try.prog 35 (r_policy_Policy_first nn)) : CtrsOk Try.prog [(54, [c_policy_Policy_allows]), (35, [r_policy_Policy_first nn])] := ⟨(ctr1 (ctr_policy_Policy_allows)), (ctr1 ih_policy_Policy_first), trivial⟩
theorem grp_first (nn : Nat) : CtrOk Try.prog 35 (r_policy_Policy_first nn) := by
  induction nn with
  | zero => exact ⟨⟨_, Try.func35, by kernel_rfl, by kernel_rfl⟩, fun H v r h => absurd h.1.2 (Nat.not_lt_zero _)⟩
  | succ nn ih =>
  have ih_policy_Policy_first := ih
  refine ⟨⟨_, Try.func35, by kernel_rfl, by kernel_rfl⟩, ?_⟩
  · intro H v r h
    obtain ⟨p, l, ⟨⟩⟩ := v
    obtain ⟨h, rfl⟩ := h
    exact mk_ok _ (fs_policy_Policy_first nn ih_policy_Policy_first) (an := an_policy_Policy_first) (outs := [O_policy_Policy_first]) Try.func35 (Nat.le_of_ble_eq_true rfl) (Eq.mpr (eq_policy_Policy_first nn p l _) (policy_Policy_first.ok nn _ p l h rfl))

theorem ctr_policy_Policy_first : CtrOk Try.prog 35 c_policy_Policy_first := ⟨⟨_, Try.func35, by kernel_rfl, by kernel_rfl⟩, fun H v r h => ((grp_first (Sp.mFi v.1 v.2.1 + 1)).2 H v r ⟨⟨h.1, Nat.lt_succ_self _⟩, h.2⟩).body⟩
abbrev I_policy_Allows : Pat := { slots := [(0, .ag (.pair (.sl (.pair .str (.pair (.int .i64) (.pair (.sl .str) (.sl .str))))) (.pair (.sl .str) (.pair (.int .i64) (.int .i64))))), (1, .ce (.v (.sl .node)))], ents := [] }
abbrev O_policy_Allows : Pat := { slots := [(0, .ce (.v .bool))], ents := [] }
def c_policy_Allows : Ctr := { k0 := 0, inp := I_policy_Allows, body := fun v => .need (Sp.allowsP.pre v.1 v.2.1) (.ret ⟨O_policy_Allows, ((Sp.allowsP v.1 v.2.1), ())⟩), ex := 0 }
def an_policy_Allows : Ann := []
def cx_policy_Allows : Cx := mkCx [(13, [c_policy_Check]), (35, [c_policy_Policy_first])]
theorem eq_policy_Allows (p : ((List (Str × (Int × ((List Str) × (List Str))))) × ((List Str) × (Int × Int)))) (l : (List Vi.Node)) (R : ((p : Pat) × p.V) → Prop) : fnVc (cx_policy_Allows) an_policy_Allows 0 Try.f20 I_policy_Allows [O_policy_Allows] (p, l, ()) R = policy_Allows.vc (fun y0 => R ⟨O_policy_Allows, (y0, ())⟩) p l := by kernel_rfl
theorem fs_policy_Allows : CtrsOk Try.prog [(13, [c_policy_Check]), (35, [c_policy_Policy_first])] := ⟨ctr1 (ctr_policy_Check), ctr1 (ctr_policy_Policy_first), trivial⟩
theorem vc_policy_Allows (H : Nat → Entry) (v : c_policy_Allows.inp.V) (r : (p : Pat) × p.V) (h : (c_policy_Allows.body v).Sel H r) : fnVc (cx_policy_Allows) an_policy_Allows 0 Try.f20 c_policy_Allows.inp [O_policy_Allows] v (fun r' => r' = r) := by
  obtain ⟨p, l, ⟨⟩⟩ := v
  obtain ⟨h, rfl⟩ := h
  exact Eq.mpr (eq_policy_Allows p l _) (policy_Allows.ok _ p l h rfl)
theorem ctr_policy_Allows : CtrOk Try.prog 20 c_policy_Allows := ⟨⟨_, Try.func20, by kernel_rfl, by kernel_rfl⟩, fun H v r h => mk_ok _ (fs_policy_Allows) (an := an_policy_Allows) (outs := [O_policy_Allows]) Try.func20 (by decide) (vc_policy_Allows H v r h)⟩
abbrev I_rectoref06_Name : Pat := { slots := [(0, .ce (.v .str))], ents := [] }
abbrev O_rectoref06_Name : Pat := { slots := [(0, .ce (.v .bool))], ents := [] }
def c_rectoref06_Name : Ctr := { k0 := 0, inp := I_rectoref06_Name, body := fun v => .need (Sp.nameS.pre v.1) (.ret ⟨O_rectoref06_Name, ((Sp.nameS v.1), ())⟩), ex := 0 }
def an_rectoref06_Name : Ann := [(2, { slots := [(0, .ce (.v .str)), (3, .ce (.v (.int .i64)))], ents := [] })]
def cx_rectoref06_Name : Cx := mkCx []
theorem eq_rectoref06_Name (s : Str) (R : ((p : Pat) × p.V) → Prop) : fnVc (cx_rectoref06_Name) an_rectoref06_Name 0 Try.f48 I_rectoref06_Name [O_rectoref06_Name] (s, ()) R = rectoref06_Name.vc (fun y0 => R ⟨O_rectoref06_Name, (y0, ())⟩) s := by kernel_rfl
theorem fs_rectoref06_Name : CtrsOk Try.prog [] := trivial
theorem vc_rectoref06_Name (H : Nat → Entry) (v : c_rectoref06_Name.inp.V) (r : (p : Pat) × p.V) (h : (c_rectoref06_Name.body v).Sel H r) : fnVc (cx_rectoref06_Name) an_rectoref06_Name 0 Try.f48 c_rectoref06_Name.inp [O_rectoref06_Name] v (fun r' => r' = r) := by
  obtain ⟨s, ⟨⟩⟩ := v
  obtain ⟨h, rfl⟩ := h
  exact Eq.mpr (eq_rectoref06_Name s _) (rectoref06_Name.ok _ s h rfl)
theorem ctr_rectoref06_Name : CtrOk Try.prog 48 c_rectoref06_Name := ⟨⟨_, Try.func48, by kernel_rfl, by kernel_rfl⟩, fun H v r h => mk_ok _ (fs_rectoref06_Name) (an := an_rectoref06_Name) (outs := [O_rectoref06_Name]) Try.func48 (by decide) (vc_rectoref06_Name H v r h)⟩
abbrev I_rectoref07_Group : Pat := { slots := [(0, .ce (.v (.int .i64)))], ents := [] }
abbrev O_rectoref07_Group : Pat := { slots := [(0, .ce (.v (.sl .str)))], ents := [] }
def c_rectoref07_Group : Ctr := { k0 := 0, inp := I_rectoref07_Group, body := fun v => .ret ⟨O_rectoref07_Group, ((Sp.groupL v.1), ())⟩, ex := 0 }
def an_rectoref07_Group : Ann := []
def cx_rectoref07_Group : Cx := mkCx []
theorem eq_rectoref07_Group (g : Int) (R : ((p : Pat) × p.V) → Prop) : fnVc (cx_rectoref07_Group) an_rectoref07_Group 0 Try.f62 I_rectoref07_Group [O_rectoref07_Group] (g, ()) R = rectoref07_Group.vc (fun y0 => R ⟨O_rectoref07_Group, (y0, ())⟩) g := by kernel_rfl
theorem fs_rectoref07_Group : CtrsOk Try.prog [] := trivial
theorem vc_rectoref07_Group (H : Nat → Entry) (v : c_rectoref07_Group.inp.V) (r : (p : Pat) × p.V) (h : (c_rectoref07_Group.body v).Sel H r) : fnVc (cx_rectoref07_Group) an_rectoref07_Group 0 Try.f62 c_rectoref07_Group.inp [O_rectoref07_Group] v (fun r' => r' = r) := by
  obtain ⟨g, ⟨⟩⟩ := v
  obtain rfl := h
  exact Eq.mpr (eq_rectoref07_Group g _) (rectoref07_Group.ok _ g  rfl)
theorem ctr_rectoref07_Group : CtrOk Try.prog 62 c_rectoref07_Group := ⟨⟨_, Try.func62, by kernel_rfl, by kernel_rfl⟩, fun H v r h => mk_ok _ (fs_rectoref07_Group) (an := an_rectoref07_Group) (outs := [O_rectoref07_Group]) Try.func62 (by decide) (vc_rectoref07_Group H v r h)⟩
abbrev I_rectoref07_Of : Pat := { slots := [(0, .ce (.v .str))], ents := [] }
abbrev O_rectoref07_Of : Pat := { slots := [(0, .ce (.v (.int .i64)))], ents := [] }
def c_rectoref07_Of : Ctr := { k0 := 0, inp := I_rectoref07_Of, body := fun v => .ret ⟨O_rectoref07_Of, ((Sp.groupN v.1), ())⟩, ex := 0 }
def an_rectoref07_Of : Ann := [(2, { slots := [(0, .ce (.v .str)), (3, .ce (.v (.int .i64)))], ents := [] })]
def cx_rectoref07_Of : Cx := mkCx [(62, [c_rectoref07_Group]), (32, [c_rectoref07_In])]
theorem eq_rectoref07_Of (name : Str) (R : ((p : Pat) × p.V) → Prop) : fnVc (cx_rectoref07_Of) an_rectoref07_Of 0 Try.f49 I_rectoref07_Of [O_rectoref07_Of] (name, ()) R = rectoref07_Of.vc (fun y0 => R ⟨O_rectoref07_Of, (y0, ())⟩) name := by kernel_rfl
theorem fs_rectoref07_Of : CtrsOk Try.prog [(62, [c_rectoref07_Group]), (32, [c_rectoref07_In])] := ⟨ctr1 (ctr_rectoref07_Group), ctr1 (ctr_rectoref07_In), trivial⟩
theorem vc_rectoref07_Of (H : Nat → Entry) (v : c_rectoref07_Of.inp.V) (r : (p : Pat) × p.V) (h : (c_rectoref07_Of.body v).Sel H r) : fnVc (cx_rectoref07_Of) an_rectoref07_Of 0 Try.f49 c_rectoref07_Of.inp [O_rectoref07_Of] v (fun r' => r' = r) := by
  obtain ⟨name, ⟨⟩⟩ := v
  obtain rfl := h
  exact Eq.mpr (eq_rectoref07_Of name _) (rectoref07_Of.ok _ name  rfl)
theorem ctr_rectoref07_Of : CtrOk Try.prog 49 c_rectoref07_Of := ⟨⟨_, Try.func49, by kernel_rfl, by kernel_rfl⟩, fun H v r h => mk_ok _ (fs_rectoref07_Of) (an := an_rectoref07_Of) (outs := [O_rectoref07_Of]) Try.func49 (by decide) (vc_rectoref07_Of H v r h)⟩
abbrev I_rectoref16_times : Pat := { slots := [(0, .ce (.v (.sl .str))), (1, .ce (.v .str))], ents := [] }
abbrev O_rectoref16_times : Pat := { slots := [(0, .ce (.v (.int .i64)))], ents := [] }
def c_rectoref16_times : Ctr := { k0 := 0, inp := I_rectoref16_times, body := fun v => .need (Sp.timesN.pre v.1 v.2.1) (.ret ⟨O_rectoref16_times, ((Sp.timesN v.1 v.2.1), ())⟩), ex := 0 }
def an_rectoref16_times : Ann := [(3, { slots := [(1, .ce (.v .str)), (5, .ce (.v (.int .i64))), (8, .ce (.v (.sl .str))), (9, .ce (.v (.int .i64))), (10, .ce (.v (.int .i64)))], ents := [] })]
def cx_rectoref16_times : Cx := mkCx []
theorem eq_rectoref16_times (l : (List Str)) (name : Str) (R : ((p : Pat) × p.V) → Prop) : fnVc (cx_rectoref16_times) an_rectoref16_times 0 Try.f47 I_rectoref16_times [O_rectoref16_times] (l, name, ()) R = rectoref16_times.vc (fun y0 => R ⟨O_rectoref16_times, (y0, ())⟩) l name := by kernel_rfl
theorem fs_rectoref16_times : CtrsOk Try.prog [] := trivial
theorem vc_rectoref16_times (H : Nat → Entry) (v : c_rectoref16_times.inp.V) (r : (p : Pat) × p.V) (h : (c_rectoref16_times.body v).Sel H r) : fnVc (cx_rectoref16_times) an_rectoref16_times 0 Try.f47 c_rectoref16_times.inp [O_rectoref16_times] v (fun r' => r' = r) := by
  obtain ⟨l, name, ⟨⟩⟩ := v
  obtain ⟨h, rfl⟩ := h
  exact Eq.mpr (eq_rectoref16_times l name _) (rectoref16_times.ok _ l name h rfl)
theorem ctr_rectoref16_times : CtrOk Try.prog 47 c_rectoref16_times := ⟨⟨_, Try.func47, by kernel_rfl, by kernel_rfl⟩, fun H v r h => mk_ok _ (fs_rectoref16_times) (an := an_rectoref16_times) (outs := [O_rectoref16_times]) Try.func47 (by decide) (vc_rectoref16_times H v r h)⟩
abbrev I_rectoref16_one : Pat := { slots := [(0, .ag (.pair .str (.pair (.int .i64) (.pair (.sl .str) (.sl .str)))))], ents := [] }
abbrev O_rectoref16_one : Pat := { slots := [(0, .ce (.v (.int .i64)))], ents := [] }
def c_rectoref16_one : Ctr := { k0 := 0, inp := I_rectoref16_one, body := fun v => .need (Sp.oneR.pre v.1) (.ret ⟨O_rectoref16_one, ((Sp.oneR v.1), ())⟩), ex := 0 }
def an_rectoref16_one : Ann := [(6, { slots := [(1, .ce (.ptr 0 0)), (3, .ce (.v (.int .i64))), (4, .ce (.os 1)), (17, .ce (.os 1)), (18, .ce (.v (.int .i64))), (19, .ce (.v (.int .i64)))], ents := [.box 36 [.v .str, .v (.int .i64), .v (.sl .str), .v (.sl .str)], .row 9 .str] })]
def cx_rectoref16_one : Cx := mkCx [(47, [c_rectoref16_times]), (48, [c_rectoref06_Name]), (49, [c_rectoref07_Of])]
theorem eq_rectoref16_one (r : (Str × (Int × ((List Str) × (List Str))))) (R : ((p : Pat) × p.V) → Prop) : fnVc (cx_rectoref16_one) an_rectoref16_one 0 Try.f27 I_rectoref16_one [O_rectoref16_one] (r, ()) R = rectoref16_one.vc (fun y0 => R ⟨O_rectoref16_one, (y0, ())⟩) r := by kernel_rfl
theorem fs_rectoref16_one : CtrsOk Try.prog [(47, [c_rectoref16_times]), (48, [c_rectoref06_Name]), (49, [c_rectoref07_Of])] := ⟨ctr1 (ctr_rectoref16_times), ctr1 (ctr_rectoref06_Name), ctr1 (ctr_rectoref07_Of), trivial⟩
theorem vc_rectoref16_one (H : Nat → Entry) (v : c_rectoref16_one.inp.V) (r : (p : Pat) × p.V) (h : (c_rectoref16_one.body v).Sel H r) : fnVc (cx_rectoref16_one) an_rectoref16_one 0 Try.f27 c_rectoref16_one.inp [O_rectoref16_one] v (fun r' => r' = r) := by
  obtain ⟨r, ⟨⟩⟩ := v
  obtain ⟨h, rfl⟩ := h
  exact Eq.mpr (eq_rectoref16_one r _) (rectoref16_one.ok _ r h rfl)
theorem ctr_rectoref16_one : CtrOk Try.prog 27 c_rectoref16_one := ⟨⟨_, Try.func27, by kernel_rfl, by kernel_rfl⟩, fun H v r h => mk_ok _ (fs_rectoref16_one) (an := an_rectoref16_one) (outs := [O_rectoref16_one]) Try.func27 (by decide) (vc_rectoref16_one H v r h)⟩
abbrev I_rectoref16_long : Pat := { slots := [(0, .ag (.pair (.sl (.pair .str (.pair (.int .i64) (.pair (.sl .str) (.sl .str))))) (.pair (.sl .str) (.pair (.int .i64) (.int .i64)))))], ents := [] }
abbrev O_rectoref16_long : Pat := { slots := [(0, .ce (.v .bool))], ents := [] }
def c_rectoref16_long : Ctr := { k0 := 0, inp := I_rectoref16_long, body := fun v => .need (Sp.polOkk v.1) (.ret ⟨O_rectoref16_long, ((Sp.longP v.1), ())⟩), ex := 0 }
def an_rectoref16_long : Ann := [(2, { slots := [(1, .ce (.ptr 0 0)), (6, .ce (.v (.sl (.pair .str (.pair (.int .i64) (.pair (.sl .str) (.sl .str))))))), (7, .ce (.v (.int .i64))), (8, .ce (.v (.int .i64)))], ents := [.box 30 [.v (.sl (.pair .str (.pair (.int .i64) (.pair (.sl .str) (.sl .str))))), .v (.sl .str), .v (.int .i64), .v (.int .i64)]] })]
def cx_rectoref16_long : Cx := mkCx []
theorem eq_rectoref16_long (p : ((List (Str × (Int × ((List Str) × (List Str))))) × ((List Str) × (Int × Int)))) (R : ((p : Pat) × p.V) → Prop) : fnVc (cx_rectoref16_long) an_rectoref16_long 0 Try.f26 I_rectoref16_long [O_rectoref16_long] (p, ()) R = rectoref16_long.vc (fun y0 => R ⟨O_rectoref16_long, (y0, ())⟩) p := by kernel_rfl
theorem fs_rectoref16_long : CtrsOk Try.prog [] := trivial
theorem vc_rectoref16_long (H : Nat → Entry) (v : c_rectoref16_long.inp.V) (r : (p : Pat) × p.V) (h : (c_rectoref16_long.body v).Sel H r) : fnVc (cx_rectoref16_long) an_rectoref16_long 0 Try.f26 c_rectoref16_long.inp [O_rectoref16_long] v (fun r' => r' = r) := by
  obtain ⟨p, ⟨⟩⟩ := v
  obtain ⟨h, rfl⟩ := h
  exact Eq.mpr (eq_rectoref16_long p _) (rectoref16_long.ok _ p h rfl)
theorem ctr_rectoref16_long : CtrOk Try.prog 26 c_rectoref16_long := ⟨⟨_, Try.func26, by kernel_rfl, by kernel_rfl⟩, fun H v r h => mk_ok _ (fs_rectoref16_long) (an := an_rectoref16_long) (outs := [O_rectoref16_long]) Try.func26 (by decide) (vc_rectoref16_long H v r h)⟩
abbrev I_rectoref16_Check : Pat := { slots := [(0, .ag (.pair (.sl (.pair .str (.pair (.int .i64) (.pair (.sl .str) (.sl .str))))) (.pair (.sl .str) (.pair (.int .i64) (.int .i64)))))], ents := [] }
abbrev O_rectoref16_Check : Pat := { slots := [(0, .ce (.v (.int .i64)))], ents := [] }
def c_rectoref16_Check : Ctr := { k0 := 0, inp := I_rectoref16_Check, body := fun v => .need (Sp.polOkk v.1) (.ret ⟨O_rectoref16_Check, ((Sp.checkP v.1), ())⟩), ex := 0 }
def an_rectoref16_Check : Ann := [(5, { slots := [(1, .ce (.ptr 0 0)), (3, .ce (.v (.int .i64))), (14, .ce (.v (.sl (.pair .str (.pair (.int .i64) (.pair (.sl .str) (.sl .str))))))), (15, .ce (.v (.int .i64))), (16, .ce (.v (.int .i64)))], ents := [.box 30 [.v (.sl (.pair .str (.pair (.int .i64) (.pair (.sl .str) (.sl .str))))), .v (.sl .str), .v (.int .i64), .v (.int .i64)]] }), (9, { slots := [(1, .ce (.ptr 0 0)), (3, .ce (.v (.int .i64))), (5, .ce (.ptr 1 0)), (6, .ce (.v (.int .i64))), (14, .ce (.v (.sl (.pair .str (.pair (.int .i64) (.pair (.sl .str) (.sl .str))))))), (15, .ce (.v (.int .i64))), (16, .ce (.v (.int .i64))), (26, .ce (.v (.sl (.pair .str (.pair (.int .i64) (.pair (.sl .str) (.sl .str))))))), (27, .ce (.v (.int .i64))), (28, .ce (.v (.int .i64)))], ents := [.box 30 [.v (.sl (.pair .str (.pair (.int .i64) (.pair (.sl .str) (.sl .str))))), .v (.sl .str), .v (.int .i64), .v (.int .i64)], .box 36 [.v .str, .v (.int .i64), .v (.sl .str), .v (.sl .str)]] }), (20, { slots := [(1, .ce (.ptr 0 0)), (3, .ce (.v (.int .i64))), (47, .ce (.v (.sl .str))), (48, .ce (.v (.int .i64))), (49, .ce (.v (.int .i64)))], ents := [.box 30 [.v (.sl (.pair .str (.pair (.int .i64) (.pair (.sl .str) (.sl .str))))), .v (.sl .str), .v (.int .i64), .v (.int .i64)]] })]
def cx_rectoref16_Check : Cx := mkCx [(26, [c_rectoref16_long]), (27, [c_rectoref16_one]), (28, [c_rectoref03_Lower])]
theorem eq_rectoref16_Check (p : ((List (Str × (Int × ((List Str) × (List Str))))) × ((List Str) × (Int × Int)))) (R : ((p : Pat) × p.V) → Prop) : fnVc (cx_rectoref16_Check) an_rectoref16_Check 0 Try.f14 I_rectoref16_Check [O_rectoref16_Check] (p, ()) R = rectoref16_Check.vc (fun y0 => R ⟨O_rectoref16_Check, (y0, ())⟩) p := by kernel_rfl
theorem fs_rectoref16_Check : CtrsOk Try.prog [(26, [c_rectoref16_long]), (27, [c_rectoref16_one]), (28, [c_rectoref03_Lower])] := ⟨ctr1 (ctr_rectoref16_long), ctr1 (ctr_rectoref16_one), ctr1 (ctr_rectoref03_Lower), trivial⟩
theorem vc_rectoref16_Check (H : Nat → Entry) (v : c_rectoref16_Check.inp.V) (r : (p : Pat) × p.V) (h : (c_rectoref16_Check.body v).Sel H r) : fnVc (cx_rectoref16_Check) an_rectoref16_Check 0 Try.f14 c_rectoref16_Check.inp [O_rectoref16_Check] v (fun r' => r' = r) := by
  obtain ⟨p, ⟨⟩⟩ := v
  obtain ⟨h, rfl⟩ := h
  exact Eq.mpr (eq_rectoref16_Check p _) (rectoref16_Check.ok _ p h rfl)
theorem ctr_rectoref16_Check : CtrOk Try.prog 14 c_rectoref16_Check := ⟨⟨_, Try.func14, by kernel_rfl, by kernel_rfl⟩, fun H v r h => mk_ok _ (fs_rectoref16_Check) (an := an_rectoref16_Check) (outs := [O_rectoref16_Check]) Try.func14 (by decide) (vc_rectoref16_Check H v r h)⟩
abbrev I_rectoref16_Plain : Pat := { slots := [], ents := [] }
abbrev O_rectoref16_Plain : Pat := { slots := [(0, .ag (.pair (.sl (.pair .str (.pair (.int .i64) (.pair (.sl .str) (.sl .str))))) (.pair (.sl .str) (.pair (.int .i64) (.int .i64)))))], ents := [] }
def c_rectoref16_Plain : Ctr := { k0 := 0, inp := I_rectoref16_Plain, body := fun v => .ret ⟨O_rectoref16_Plain, ((Sp.plainP), ())⟩, ex := 0 }
def an_rectoref16_Plain : Ann := [(3, { slots := [(0, .ce (.ptr 0 0)), (1, .ce (.os 1)), (4, .ce (.os 2)), (5, .ce (.v (.int .i64))), (6, .ce (.v (.int .i64)))], ents := [.box 30 [.v (.sl (.pair .str (.pair (.int .i64) (.pair (.sl .str) (.sl .str))))), .v (.sl .str), .v (.int .i64), .v (.int .i64)], .row 36 (.pair .str (.pair (.int .i64) (.pair (.sl .str) (.sl .str)))), .row 9 .str] })]
def cx_rectoref16_Plain : Cx := mkCx []
theorem eq_rectoref16_Plain  (R : ((p : Pat) × p.V) → Prop) : fnVc (cx_rectoref16_Plain) an_rectoref16_Plain 0 Try.f11 I_rectoref16_Plain [O_rectoref16_Plain] (()) R = rectoref16_Plain.vc (fun y0 => R ⟨O_rectoref16_Plain, (y0, ())⟩)  := by kernel_rfl
theorem fs_rectoref16_Plain : CtrsOk Try.prog [] := trivial
theorem vc_rectoref16_Plain (H : Nat → Entry) (v : c_rectoref16_Plain.inp.V) (r : (p : Pat) × p.V) (h : (c_rectoref16_Plain.body v).Sel H r) : fnVc (cx_rectoref16_Plain) an_rectoref16_Plain 0 Try.f11 c_rectoref16_Plain.inp [O_rectoref16_Plain] v (fun r' => r' = r) := by
  obtain ⟨⟩ := v
  obtain rfl := h
  exact Eq.mpr (eq_rectoref16_Plain  _) (rectoref16_Plain.ok _   rfl)
theorem ctr_rectoref16_Plain : CtrOk Try.prog 11 c_rectoref16_Plain := ⟨⟨_, Try.func11, by kernel_rfl, by kernel_rfl⟩, fun H v r h => mk_ok _ (fs_rectoref16_Plain) (an := an_rectoref16_Plain) (outs := [O_rectoref16_Plain]) Try.func11 (by decide) (vc_rectoref16_Plain H v r h)⟩
abbrev I_rectoref16_Of : Pat := { slots := [(0, .ag (.pair (.sl (.pair .str (.pair (.int .i64) (.pair (.sl .str) (.sl .str))))) (.pair (.sl .str) (.pair (.int .i64) (.int .i64))))), (1, .ce (.v .str))], ents := [] }
abbrev O_rectoref16_Of : Pat := { slots := [(0, .ag (.pair .str (.pair (.int .i64) (.pair (.sl .str) (.sl .str)))))], ents := [] }
def c_rectoref16_Of : Ctr := { k0 := 0, inp := I_rectoref16_Of, body := fun v => .need (Sp.ruleP.pre v.1 v.2.1) (.ret ⟨O_rectoref16_Of, ((Sp.ruleP v.1 v.2.1), ())⟩), ex := 0 }
def an_rectoref16_Of : Ann := [(2, { slots := [(1, .ce (.v .str)), (2, .ce (.ptr 0 0)), (4, .ce (.ptr 1 0)), (8, .ce (.v (.sl (.pair .str (.pair (.int .i64) (.pair (.sl .str) (.sl .str))))))), (9, .ce (.v (.int .i64))), (10, .ce (.v (.int .i64)))], ents := [.box 30 [.v (.sl (.pair .str (.pair (.int .i64) (.pair (.sl .str) (.sl .str))))), .v (.sl .str), .v (.int .i64), .v (.int .i64)], .box 36 [.v .str, .v (.int .i64), .v (.sl .str), .v (.sl .str)]] })]
def cx_rectoref16_Of : Cx := mkCx []
theorem eq_rectoref16_Of (p : ((List (Str × (Int × ((List Str) × (List Str))))) × ((List Str) × (Int × Int)))) (name : Str) (R : ((p : Pat) × p.V) → Prop) : fnVc (cx_rectoref16_Of) an_rectoref16_Of 0 Try.f31 I_rectoref16_Of [O_rectoref16_Of] (p, name, ()) R = rectoref16_Of.vc (fun y0 => R ⟨O_rectoref16_Of, (y0, ())⟩) p name := by kernel_rfl
theorem fs_rectoref16_Of : CtrsOk Try.prog [] := trivial
theorem vc_rectoref16_Of (H : Nat → Entry) (v : c_rectoref16_Of.inp.V) (r : (p : Pat) × p.V) (h : (c_rectoref16_Of.body v).Sel H r) : fnVc (cx_rectoref16_Of) an_rectoref16_Of 0 Try.f31 c_rectoref16_Of.inp [O_rectoref16_Of] v (fun r' => r' = r) := by
  obtain ⟨p, name, ⟨⟩⟩ := v
  obtain ⟨h, rfl⟩ := h
  exact Eq.mpr (eq_rectoref16_Of p name _) (rectoref16_Of.ok _ p name h rfl)
theorem ctr_rectoref16_Of : CtrOk Try.prog 31 c_rectoref16_Of := ⟨⟨_, Try.func31, by kernel_rfl, by kernel_rfl⟩, fun H v r h => mk_ok _ (fs_rectoref16_Of) (an := an_rectoref16_Of) (outs := [O_rectoref16_Of]) Try.func31 (by decide) (vc_rectoref16_Of H v r h)⟩
abbrev I_rectoref16_Act : Pat := { slots := [(0, .ag (.pair (.sl (.pair .str (.pair (.int .i64) (.pair (.sl .str) (.sl .str))))) (.pair (.sl .str) (.pair (.int .i64) (.int .i64))))), (1, .ce (.v (.int .i64))), (2, .ce (.v .str))], ents := [] }
abbrev O_rectoref16_Act : Pat := { slots := [(0, .ce (.v (.int .i64)))], ents := [] }
def c_rectoref16_Act : Ctr := { k0 := 0, inp := I_rectoref16_Act, body := fun v => .need (Sp.actP.pre v.1 v.2.1 v.2.2.1) (.ret ⟨O_rectoref16_Act, ((Sp.actP v.1 v.2.1 v.2.2.1), ())⟩), ex := 0 }
def an_rectoref16_Act : Ann := []
def cx_rectoref16_Act : Cx := mkCx [(31, [c_rectoref16_Of])]
theorem eq_rectoref16_Act (p : ((List (Str × (Int × ((List Str) × (List Str))))) × ((List Str) × (Int × Int)))) (space : Int) (name : Str) (R : ((p : Pat) × p.V) → Prop) : fnVc (cx_rectoref16_Act) an_rectoref16_Act 0 Try.f17 I_rectoref16_Act [O_rectoref16_Act] (p, space, name, ()) R = rectoref16_Act.vc (fun y0 => R ⟨O_rectoref16_Act, (y0, ())⟩) p space name := by kernel_rfl
theorem fs_rectoref16_Act : CtrsOk Try.prog [(31, [c_rectoref16_Of])] := ⟨ctr1 (ctr_rectoref16_Of), trivial⟩
theorem vc_rectoref16_Act (H : Nat → Entry) (v : c_rectoref16_Act.inp.V) (r : (p : Pat) × p.V) (h : (c_rectoref16_Act.body v).Sel H r) : fnVc (cx_rectoref16_Act) an_rectoref16_Act 0 Try.f17 c_rectoref16_Act.inp [O_rectoref16_Act] v (fun r' => r' = r) := by
  obtain ⟨p, space, name, ⟨⟩⟩ := v
  obtain ⟨h, rfl⟩ := h
  exact Eq.mpr (eq_rectoref16_Act p space name _) (rectoref16_Act.ok _ p space name h rfl)
theorem ctr_rectoref16_Act : CtrOk Try.prog 17 c_rectoref16_Act := ⟨⟨_, Try.func17, by kernel_rfl, by kernel_rfl⟩, fun H v r h => mk_ok _ (fs_rectoref16_Act) (an := an_rectoref16_Act) (outs := [O_rectoref16_Act]) Try.func17 (by decide) (vc_rectoref16_Act H v r h)⟩
abbrev I_rectoref16_Stays : Pat := { slots := [(0, .ag (.pair (.sl (.pair .str (.pair (.int .i64) (.pair (.sl .str) (.sl .str))))) (.pair (.sl .str) (.pair (.int .i64) (.int .i64))))), (1, .ce (.v .str)), (2, .ag (.pair .str .str))], ents := [] }
abbrev O_rectoref16_Stays : Pat := { slots := [(0, .ce (.v .bool))], ents := [] }
def c_rectoref16_Stays : Ctr := { k0 := 0, inp := I_rectoref16_Stays, body := fun v => .need (Sp.staysP.pre v.1 v.2.1 v.2.2.1) (.ret ⟨O_rectoref16_Stays, ((Sp.staysP v.1 v.2.1 v.2.2.1), ())⟩), ex := 0 }
def an_rectoref16_Stays : Ann := []
def cx_rectoref16_Stays : Cx := mkCx [(31, [c_rectoref16_Of]), (32, [c_rectoref07_In]), (33, [c_rectoref15_Safe])]
theorem eq_rectoref16_Stays (p : ((List (Str × (Int × ((List Str) × (List Str))))) × ((List Str) × (Int × Int)))) (name : Str) (a : (Str × Str)) (R : ((p : Pat) × p.V) → Prop) : fnVc (cx_rectoref16_Stays) an_rectoref16_Stays 0 Try.f18 I_rectoref16_Stays [O_rectoref16_Stays] (p, name, a, ()) R = rectoref16_Stays.vc (fun y0 => R ⟨O_rectoref16_Stays, (y0, ())⟩) p name a := by kernel_rfl
theorem fs_rectoref16_Stays : CtrsOk Try.prog [(31, [c_rectoref16_Of]), (32, [c_rectoref07_In]), (33, [c_rectoref15_Safe])] := ⟨ctr1 (ctr_rectoref16_Of), ctr1 (ctr_rectoref07_In), ctr1 (ctr_rectoref15_Safe), trivial⟩
theorem vc_rectoref16_Stays (H : Nat → Entry) (v : c_rectoref16_Stays.inp.V) (r : (p : Pat) × p.V) (h : (c_rectoref16_Stays.body v).Sel H r) : fnVc (cx_rectoref16_Stays) an_rectoref16_Stays 0 Try.f18 c_rectoref16_Stays.inp [O_rectoref16_Stays] v (fun r' => r' = r) := by
  obtain ⟨p, name, a, ⟨⟩⟩ := v
  obtain ⟨h, rfl⟩ := h
  exact Eq.mpr (eq_rectoref16_Stays p name a _) (rectoref16_Stays.ok _ p name a h rfl)
theorem ctr_rectoref16_Stays : CtrOk Try.prog 18 c_rectoref16_Stays := ⟨⟨_, Try.func18, by kernel_rfl, by kernel_rfl⟩, fun H v r h => mk_ok _ (fs_rectoref16_Stays) (an := an_rectoref16_Stays) (outs := [O_rectoref16_Stays]) Try.func18 (by decide) (vc_rectoref16_Stays H v r h)⟩
abbrev I_rectoplain_Large : Pat := { slots := [(0, .ce (.v (.sl .node))), (1, .ce (.ptr 0 0)), (2, .ce (.v (.int .i64)))], ents := [.box 67 [.v (.int .i64)]] }
abbrev O_rectoplain_Large : Pat := { slots := [(0, .ce (.v .bool))], ents := [.box 67 [.v (.int .i64)]] }
def r_rectoplain_Large (nn : Nat) : Ctr := { k0 := 1, inp := I_rectoplain_Large, body := fun v => .need (Sp.lg.pre v.1 v.2.1 v.2.2.1 ∧ Sp.mLg v.1 v.2.1 v.2.2.1 < nn) (.ret ⟨O_rectoplain_Large, ((Sp.lg v.1 v.2.1 v.2.2.1).1, (Sp.lg v.1 v.2.1 v.2.2.1).2, ())⟩), ex := 0 }
def c_rectoplain_Large : Ctr := { k0 := 1, inp := I_rectoplain_Large, body := fun v => .need (Sp.lg.pre v.1 v.2.1 v.2.2.1) (.ret ⟨O_rectoplain_Large, ((Sp.lg v.1 v.2.1 v.2.2.1).1, (Sp.lg v.1 v.2.1 v.2.2.1).2, ())⟩), ex := 0 }
def an_rectoplain_Large : Ann := [(4, { slots := [(1, .ce (.ptr 0 0)), (2, .ce (.v (.int .i64))), (18, .ce (.v (.sl .node))), (19, .ce (.v (.int .i64))), (20, .ce (.v (.int .i64)))], ents := [.box 67 [.v (.int .i64)]] }), (11, { slots := [(1, .ce (.ptr 0 0)), (2, .ce (.v (.int .i64))), (8, .ce (.ptr 1 0)), (18, .ce (.v (.sl .node))), (19, .ce (.v (.int .i64))), (20, .ce (.v (.int .i64))), (72, .ce (.v (.sl (.pair .str .str)))), (73, .ce (.v (.int .i64))), (74, .ce (.v (.int .i64)))], ents := [.box 67 [.v (.int .i64)], .box 43 [.v (.int .i64), .v (.int .i64), .v .str, .v (.sl (.pair .str .str)), .v .str, .v (.sl .node)]] })]
def cx_rectoplain_Large (nn : Nat) : Cx := mkCx [(34, [r_rectoplain_Large nn])]
theorem eq_rectoplain_Large (nn : Nat) (l : (List Vi.Node)) (depth : Int) (room : Int) (R : ((p : Pat) × p.V) → Prop) : fnVc (cx_rectoplain_Large nn) an_rectoplain_Large 1 Try.f34 I_rectoplain_Large [O_rectoplain_Large] (l, depth, room, ()) R = rectoplain_Large.vc (fun y0 y1 => R ⟨O_rectoplain_Large, (y0, y1, ())⟩) nn l depth room := by kernel_rfl
theorem fs_rectoplain_Large (nn : Nat) (ih_rectoplain_Large : CtrOk Try.prog 34 (r_rectoplain_Large nn)) : CtrsOk Try.prog [(34, [r_rectoplain_Large nn])] := ⟨(ctr1 ih_rectoplain_Large), trivial⟩
theorem grp_large (nn : Nat) : CtrOk Try.prog 34 (r_rectoplain_Large nn) := by
  induction nn with
  | zero => exact ⟨⟨_, Try.func34, by kernel_rfl, by kernel_rfl⟩, fun H v r h => absurd h.1.2 (Nat.not_lt_zero _)⟩
  | succ nn ih =>
  have ih_rectoplain_Large := ih
  refine ⟨⟨_, Try.func34, by kernel_rfl, by kernel_rfl⟩, ?_⟩
  · intro H v r h
    obtain ⟨l, depth, room, ⟨⟩⟩ := v
    obtain ⟨h, rfl⟩ := h
    exact mk_ok _ (fs_rectoplain_Large nn ih_rectoplain_Large) (an := an_rectoplain_Large) (outs := [O_rectoplain_Large]) Try.func34 (Nat.le_of_ble_eq_true rfl) (Eq.mpr (eq_rectoplain_Large nn l depth room _) (rectoplain_Large.ok nn _ l depth room h rfl))

theorem ctr_rectoplain_Large : CtrOk Try.prog 34 c_rectoplain_Large := ⟨⟨_, Try.func34, by kernel_rfl, by kernel_rfl⟩, fun H v r h => ((grp_large (Sp.mLg v.1 v.2.1 v.2.2.1 + 1)).2 H v r ⟨⟨h.1, Nat.lt_succ_self _⟩, h.2⟩).body⟩
abbrev I_rectolaw16_wide : Pat := { slots := [(0, .ce (.v (.sl .node)))], ents := [] }
abbrev O_rectolaw16_wide : Pat := { slots := [(0, .ce (.v .bool))], ents := [] }
def c_rectolaw16_wide : Ctr := { k0 := 0, inp := I_rectolaw16_wide, body := fun v => .ret ⟨O_rectolaw16_wide, ((Sp.wide600 v.1), ())⟩, ex := 0 }
def an_rectolaw16_wide : Ann := []
def cx_rectolaw16_wide : Cx := mkCx [(34, [c_rectoplain_Large])]
theorem eq_rectolaw16_wide (l : (List Vi.Node)) (R : ((p : Pat) × p.V) → Prop) : fnVc (cx_rectolaw16_wide) an_rectolaw16_wide 0 Try.f19 I_rectolaw16_wide [O_rectolaw16_wide] (l, ()) R = rectolaw16_wide.vc (fun y0 => R ⟨O_rectolaw16_wide, (y0, ())⟩) l := by kernel_rfl
theorem fs_rectolaw16_wide : CtrsOk Try.prog [(34, [c_rectoplain_Large])] := ⟨ctr1 (ctr_rectoplain_Large), trivial⟩
theorem vc_rectolaw16_wide (H : Nat → Entry) (v : c_rectolaw16_wide.inp.V) (r : (p : Pat) × p.V) (h : (c_rectolaw16_wide.body v).Sel H r) : fnVc (cx_rectolaw16_wide) an_rectolaw16_wide 0 Try.f19 c_rectolaw16_wide.inp [O_rectolaw16_wide] v (fun r' => r' = r) := by
  obtain ⟨l, ⟨⟩⟩ := v
  obtain rfl := h
  exact Eq.mpr (eq_rectolaw16_wide l _) (rectolaw16_wide.ok _ l  rfl)
theorem ctr_rectolaw16_wide : CtrOk Try.prog 19 c_rectolaw16_wide := ⟨⟨_, Try.func19, by kernel_rfl, by kernel_rfl⟩, fun H v r h => mk_ok _ (fs_rectolaw16_wide) (an := an_rectolaw16_wide) (outs := [O_rectolaw16_wide]) Try.func19 (by decide) (vc_rectolaw16_wide H v r h)⟩
abbrev I_rectolaw16_large : Pat := { slots := [(0, .ag (.pair (.sl (.pair .str (.pair (.int .i64) (.pair (.sl .str) (.sl .str))))) (.pair (.sl .str) (.pair (.int .i64) (.int .i64)))))], ents := [] }
abbrev O_rectolaw16_large : Pat := { slots := [(0, .ce (.v .bool))], ents := [] }
def c_rectolaw16_large : Ctr := { k0 := 0, inp := I_rectolaw16_large, body := fun v => .need (Sp.largeP.pre v.1) (.ret ⟨O_rectolaw16_large, ((Sp.largeP v.1), ())⟩), ex := 0 }
def an_rectolaw16_large : Ann := [(4, { slots := [(16, .ce (.v (.sl (.pair .str (.pair (.int .i64) (.pair (.sl .str) (.sl .str))))))), (17, .ce (.v (.int .i64))), (18, .ce (.v (.int .i64)))], ents := [] })]
def cx_rectolaw16_large : Cx := mkCx []
theorem eq_rectolaw16_large (p : ((List (Str × (Int × ((List Str) × (List Str))))) × ((List Str) × (Int × Int)))) (R : ((p : Pat) × p.V) → Prop) : fnVc (cx_rectolaw16_large) an_rectolaw16_large 0 Try.f7 I_rectolaw16_large [O_rectolaw16_large] (p, ()) R = rectolaw16_large.vc (fun y0 => R ⟨O_rectolaw16_large, (y0, ())⟩) p := by kernel_rfl
theorem fs_rectolaw16_large : CtrsOk Try.prog [] := trivial
theorem vc_rectolaw16_large (H : Nat → Entry) (v : c_rectolaw16_large.inp.V) (r : (p : Pat) × p.V) (h : (c_rectolaw16_large.body v).Sel H r) : fnVc (cx_rectolaw16_large) an_rectolaw16_large 0 Try.f7 c_rectolaw16_large.inp [O_rectolaw16_large] v (fun r' => r' = r) := by
  obtain ⟨p, ⟨⟩⟩ := v
  obtain ⟨h, rfl⟩ := h
  exact Eq.mpr (eq_rectolaw16_large p _) (rectolaw16_large.ok _ p h rfl)
theorem ctr_rectolaw16_large : CtrOk Try.prog 7 c_rectolaw16_large := ⟨⟨_, Try.func7, by kernel_rfl, by kernel_rfl⟩, fun H v r h => mk_ok _ (fs_rectolaw16_large) (an := an_rectolaw16_large) (outs := [O_rectolaw16_large]) Try.func7 (by decide) (vc_rectolaw16_large H v r h)⟩
abbrev I_rectolaw16_ref : Pat := { slots := [(0, .ag (.pair (.sl (.pair .str (.pair (.int .i64) (.pair (.sl .str) (.sl .str))))) (.pair (.sl .str) (.pair (.int .i64) (.int .i64)))))], ents := [] }
abbrev O_rectolaw16_ref : Pat := { slots := [(0, .ag (.pair (.sl (.pair .str (.pair (.int .i64) (.pair (.sl .str) (.sl .str))))) (.pair (.sl .str) (.pair (.int .i64) (.int .i64)))))], ents := [] }
def c_rectolaw16_ref : Ctr := { k0 := 0, inp := I_rectolaw16_ref, body := fun v => .need (Sp.polOkk v.1) (.ret ⟨O_rectolaw16_ref, ((Sp.refP v.1), ())⟩), ex := 0 }
def an_rectolaw16_ref : Ann := [(3, { slots := [(2, .ce (.ptr 0 0)), (3, .ce (.ptr 1 0)), (14, .ce (.v (.sl (.pair .str (.pair (.int .i64) (.pair (.sl .str) (.sl .str))))))), (15, .ce (.v (.int .i64))), (16, .ce (.v (.int .i64)))], ents := [.box 30 [.v (.sl (.pair .str (.pair (.int .i64) (.pair (.sl .str) (.sl .str))))), .v (.sl .str), .v (.int .i64), .v (.int .i64)], .box 30 [.os 2, .v (.sl .str), .v (.int .i64), .v (.int .i64)], .row 36 (.pair .str (.pair (.int .i64) (.pair (.sl .str) (.sl .str))))] })]
def cx_rectolaw16_ref : Cx := mkCx []
theorem eq_rectolaw16_ref (p : ((List (Str × (Int × ((List Str) × (List Str))))) × ((List Str) × (Int × Int)))) (R : ((p : Pat) × p.V) → Prop) : fnVc (cx_rectolaw16_ref) an_rectolaw16_ref 0 Try.f9 I_rectolaw16_ref [O_rectolaw16_ref] (p, ()) R = rectolaw16_ref.vc (fun y0 => R ⟨O_rectolaw16_ref, (y0, ())⟩) p := by kernel_rfl
theorem fs_rectolaw16_ref : CtrsOk Try.prog [] := trivial
theorem vc_rectolaw16_ref (H : Nat → Entry) (v : c_rectolaw16_ref.inp.V) (r : (p : Pat) × p.V) (h : (c_rectolaw16_ref.body v).Sel H r) : fnVc (cx_rectolaw16_ref) an_rectolaw16_ref 0 Try.f9 c_rectolaw16_ref.inp [O_rectolaw16_ref] v (fun r' => r' = r) := by
  obtain ⟨p, ⟨⟩⟩ := v
  obtain ⟨h, rfl⟩ := h
  exact Eq.mpr (eq_rectolaw16_ref p _) (rectolaw16_ref.ok _ p h rfl)
theorem ctr_rectolaw16_ref : CtrOk Try.prog 9 c_rectolaw16_ref := ⟨⟨_, Try.func9, by kernel_rfl, by kernel_rfl⟩, fun H v r h => mk_ok _ (fs_rectolaw16_ref) (an := an_rectolaw16_ref) (outs := [O_rectolaw16_ref]) Try.func9 (by decide) (vc_rectolaw16_ref H v r h)⟩
abbrev I_rectolaw16_script : Pat := { slots := [], ents := [] }
abbrev O_rectolaw16_script : Pat := { slots := [(0, .ce (.v .bool))], ents := [] }
def c_rectolaw16_script : Ctr := { k0 := 0, inp := I_rectolaw16_script, body := fun v => .ret ⟨O_rectolaw16_script, ((Sp.tt), ())⟩, ex := 0 }
def an_rectolaw16_script : Ann := []
def cx_rectolaw16_script : Cx := mkCx [(10, [c_policy_Plain]), (13, [c_policy_Check]), (15, [c_policy_Act]), (16, [c_policy_Stays])]
theorem eq_rectolaw16_script  (R : ((p : Pat) × p.V) → Prop) : fnVc (cx_rectolaw16_script) an_rectolaw16_script 0 Try.f8 I_rectolaw16_script [O_rectolaw16_script] (()) R = rectolaw16_script.vc (fun y0 => R ⟨O_rectolaw16_script, (y0, ())⟩)  := by kernel_rfl
theorem fs_rectolaw16_script : CtrsOk Try.prog [(10, [c_policy_Plain]), (13, [c_policy_Check]), (15, [c_policy_Act]), (16, [c_policy_Stays])] := ⟨ctr1 (ctr_policy_Plain), ctr1 (ctr_policy_Check), ctr1 (ctr_policy_Act), ctr1 (ctr_policy_Stays), trivial⟩
theorem vc_rectolaw16_script (H : Nat → Entry) (v : c_rectolaw16_script.inp.V) (r : (p : Pat) × p.V) (h : (c_rectolaw16_script.body v).Sel H r) : fnVc (cx_rectolaw16_script) an_rectolaw16_script 0 Try.f8 c_rectolaw16_script.inp [O_rectolaw16_script] v (fun r' => r' = r) := by
  obtain ⟨⟩ := v
  obtain rfl := h
  exact Eq.mpr (eq_rectolaw16_script  _) (rectolaw16_script.ok _   rfl)
theorem ctr_rectolaw16_script : CtrOk Try.prog 8 c_rectolaw16_script := ⟨⟨_, Try.func8, by kernel_rfl, by kernel_rfl⟩, fun H v r h => mk_ok _ (fs_rectolaw16_script) (an := an_rectolaw16_script) (outs := [O_rectolaw16_script]) Try.func8 (by decide) (vc_rectolaw16_script H v r h)⟩
abbrev I_rectolaw16_leafless : Pat := { slots := [(0, .ce (.v (.sl .node)))], ents := [] }
abbrev O_rectolaw16_leafless : Pat := { slots := [(0, .ce (.v .bool))], ents := [] }
def r_rectolaw16_leafless (nn : Nat) : Ctr := { k0 := 0, inp := I_rectolaw16_leafless, body := fun v => .need (Sp.nodesOkk v.1 ∧ Sp.mLf v.1 < nn) (.ret ⟨O_rectolaw16_leafless, ((Sp.lfL v.1), ())⟩), ex := 0 }
def c_rectolaw16_leafless : Ctr := { k0 := 0, inp := I_rectolaw16_leafless, body := fun v => .need (Sp.nodesOkk v.1) (.ret ⟨O_rectolaw16_leafless, ((Sp.lfL v.1), ())⟩), ex := 0 }
def an_rectolaw16_leafless : Ann := [(2, { slots := [(5, .ce (.v (.sl .node))), (6, .ce (.v (.int .i64))), (7, .ce (.v (.int .i64)))], ents := [] })]
def cx_rectolaw16_leafless (nn : Nat) : Cx := mkCx [(21, [r_rectolaw16_leafless nn])]
theorem eq_rectolaw16_leafless (nn : Nat) (l : (List Vi.Node)) (R : ((p : Pat) × p.V) → Prop) : fnVc (cx_rectolaw16_leafless nn) an_rectolaw16_leafless 0 Try.f21 I_rectolaw16_leafless [O_rectolaw16_leafless] (l, ()) R = rectolaw16_leafless.vc (fun y0 => R ⟨O_rectolaw16_leafless, (y0, ())⟩) nn l := by kernel_rfl
theorem fs_rectolaw16_leafless (nn : Nat) (ih_rectolaw16_leafless : CtrOk Try.prog 21 (r_rectolaw16_leafless nn)) : CtrsOk Try.prog [(21, [r_rectolaw16_leafless nn])] := ⟨(ctr1 ih_rectolaw16_leafless), trivial⟩
theorem grp_leafless (nn : Nat) : CtrOk Try.prog 21 (r_rectolaw16_leafless nn) := by
  induction nn with
  | zero => exact ⟨⟨_, Try.func21, by kernel_rfl, by kernel_rfl⟩, fun H v r h => absurd h.1.2 (Nat.not_lt_zero _)⟩
  | succ nn ih =>
  have ih_rectolaw16_leafless := ih
  refine ⟨⟨_, Try.func21, by kernel_rfl, by kernel_rfl⟩, ?_⟩
  · intro H v r h
    obtain ⟨l, ⟨⟩⟩ := v
    obtain ⟨h, rfl⟩ := h
    exact mk_ok _ (fs_rectolaw16_leafless nn ih_rectolaw16_leafless) (an := an_rectolaw16_leafless) (outs := [O_rectolaw16_leafless]) Try.func21 (Nat.le_of_ble_eq_true rfl) (Eq.mpr (eq_rectolaw16_leafless nn l _) (rectolaw16_leafless.ok nn _ l h rfl))

theorem ctr_rectolaw16_leafless : CtrOk Try.prog 21 c_rectolaw16_leafless := ⟨⟨_, Try.func21, by kernel_rfl, by kernel_rfl⟩, fun H v r h => ((grp_leafless (Sp.mLf v.1 + 1)).2 H v r ⟨⟨h.1, Nat.lt_succ_self _⟩, h.2⟩).body⟩
abbrev I_rectolaw16_harmless : Pat := { slots := [(0, .ce (.v (.sl .node)))], ents := [] }
abbrev O_rectolaw16_harmless : Pat := { slots := [(0, .ce (.v .bool))], ents := [] }
def r_rectolaw16_harmless (nn : Nat) : Ctr := { k0 := 0, inp := I_rectolaw16_harmless, body := fun v => .need (Sp.nodesOkk v.1 ∧ Sp.mLf v.1 < nn) (.ret ⟨O_rectolaw16_harmless, ((Sp.hmL v.1), ())⟩), ex := 0 }
def c_rectolaw16_harmless : Ctr := { k0 := 0, inp := I_rectolaw16_harmless, body := fun v => .need (Sp.nodesOkk v.1) (.ret ⟨O_rectolaw16_harmless, ((Sp.hmL v.1), ())⟩), ex := 0 }
def an_rectolaw16_harmless : Ann := [(2, { slots := [(9, .ce (.v (.sl .node))), (10, .ce (.v (.int .i64))), (11, .ce (.v (.int .i64)))], ents := [] }), (7, { slots := [(4, .ce (.ptr 0 0)), (9, .ce (.v (.sl .node))), (10, .ce (.v (.int .i64))), (11, .ce (.v (.int .i64))), (34, .ce (.v (.sl (.pair .str .str)))), (35, .ce (.v (.int .i64))), (36, .ce (.v (.int .i64)))], ents := [.box 43 [.v (.int .i64), .v (.int .i64), .v .str, .v (.sl (.pair .str .str)), .v .str, .v (.sl .node)]] })]
def cx_rectolaw16_harmless (nn : Nat) : Cx := mkCx [(36, [c_urls_Scheme]), (22, [r_rectolaw16_harmless nn])]
theorem eq_rectolaw16_harmless (nn : Nat) (l : (List Vi.Node)) (R : ((p : Pat) × p.V) → Prop) : fnVc (cx_rectolaw16_harmless nn) an_rectolaw16_harmless 0 Try.f22 I_rectolaw16_harmless [O_rectolaw16_harmless] (l, ()) R = rectolaw16_harmless.vc (fun y0 => R ⟨O_rectolaw16_harmless, (y0, ())⟩) nn l := by kernel_rfl
theorem fs_rectolaw16_harmless (nn : Nat) (ih_rectolaw16_harmless : CtrOk Try.prog 22 (r_rectolaw16_harmless nn)) : CtrsOk Try.prog [(36, [c_urls_Scheme]), (22, [r_rectolaw16_harmless nn])] := ⟨(ctr1 (ctr_urls_Scheme)), (ctr1 ih_rectolaw16_harmless), trivial⟩
theorem grp_harmless (nn : Nat) : CtrOk Try.prog 22 (r_rectolaw16_harmless nn) := by
  induction nn with
  | zero => exact ⟨⟨_, Try.func22, by kernel_rfl, by kernel_rfl⟩, fun H v r h => absurd h.1.2 (Nat.not_lt_zero _)⟩
  | succ nn ih =>
  have ih_rectolaw16_harmless := ih
  refine ⟨⟨_, Try.func22, by kernel_rfl, by kernel_rfl⟩, ?_⟩
  · intro H v r h
    obtain ⟨l, ⟨⟩⟩ := v
    obtain ⟨h, rfl⟩ := h
    exact mk_ok _ (fs_rectolaw16_harmless nn ih_rectolaw16_harmless) (an := an_rectolaw16_harmless) (outs := [O_rectolaw16_harmless]) Try.func22 (Nat.le_of_ble_eq_true rfl) (Eq.mpr (eq_rectolaw16_harmless nn l _) (rectolaw16_harmless.ok nn _ l h rfl))

theorem ctr_rectolaw16_harmless : CtrOk Try.prog 22 c_rectolaw16_harmless := ⟨⟨_, Try.func22, by kernel_rfl, by kernel_rfl⟩, fun H v r h => ((grp_harmless (Sp.mLf v.1 + 1)).2 H v r ⟨⟨h.1, Nat.lt_succ_self _⟩, h.2⟩).body⟩
abbrev I_rectolaw16_PolicyChecks : Pat := { slots := [(0, .ag (.pair (.sl (.pair .str (.pair (.int .i64) (.pair (.sl .str) (.sl .str))))) (.pair (.sl .str) (.pair (.int .i64) (.int .i64)))))], ents := [] }
abbrev O_rectolaw16_PolicyChecks : Pat := { slots := [(0, .ce (.v .bool))], ents := [] }
def c_rectolaw16_PolicyChecks : Ctr := { k0 := 0, inp := I_rectolaw16_PolicyChecks, body := fun v => .need (Sz (.pair (.sl (.pair .str (.pair (.int .i64) (.pair (.sl .str) (.sl .str))))) (.pair (.sl .str) (.pair (.int .i64) (.int .i64)))) v.1) (.ret ⟨O_rectolaw16_PolicyChecks, ((Sp.tt), ())⟩), ex := 0 }
def an_rectolaw16_PolicyChecks : Ann := [(8, { slots := [(1, .ce (.ptr 0 0)), (3, .ce (.ptr 1 0)), (4, .ce (.ptr 2 0)), (45, .ce (.v (.int .i64))), (46, .ce (.v (.int .i64)))], ents := [.box 25 [.v (.sl (.pair .str (.pair (.int .i64) (.pair (.sl .str) (.sl .str))))), .v (.sl .str), .v (.int .i64), .v (.int .i64)], .box 30 [.v (.sl (.pair .str (.pair (.int .i64) (.pair (.sl .str) (.sl .str))))), .v (.sl .str), .v (.int .i64), .v (.int .i64)], .box 30 [.v (.sl (.pair .str (.pair (.int .i64) (.pair (.sl .str) (.sl .str))))), .v (.sl .str), .v (.int .i64), .v (.int .i64)]] })]
def cx_rectolaw16_PolicyChecks : Cx := mkCx [(7, [c_rectolaw16_large]), (8, [c_rectolaw16_script]), (10, [c_policy_Plain]), (9, [c_rectolaw16_ref]), (11, [c_rectoref16_Plain]), (12, [c_rectoplain_Texts]), (13, [c_policy_Check]), (14, [c_rectoref16_Check])]
theorem eq_rectolaw16_PolicyChecks (p : ((List (Str × (Int × ((List Str) × (List Str))))) × ((List Str) × (Int × Int)))) (R : ((p : Pat) × p.V) → Prop) : fnVc (cx_rectolaw16_PolicyChecks) an_rectolaw16_PolicyChecks 0 Try.f3 I_rectolaw16_PolicyChecks [O_rectolaw16_PolicyChecks] (p, ()) R = rectolaw16_PolicyChecks.vc (fun y0 => R ⟨O_rectolaw16_PolicyChecks, (y0, ())⟩) p := by kernel_rfl
theorem fs_rectolaw16_PolicyChecks : CtrsOk Try.prog [(7, [c_rectolaw16_large]), (8, [c_rectolaw16_script]), (10, [c_policy_Plain]), (9, [c_rectolaw16_ref]), (11, [c_rectoref16_Plain]), (12, [c_rectoplain_Texts]), (13, [c_policy_Check]), (14, [c_rectoref16_Check])] := ⟨ctr1 (ctr_rectolaw16_large), ctr1 (ctr_rectolaw16_script), ctr1 (ctr_policy_Plain), ctr1 (ctr_rectolaw16_ref), ctr1 (ctr_rectoref16_Plain), ctr1 (ctr_rectoplain_Texts), ctr1 (ctr_policy_Check), ctr1 (ctr_rectoref16_Check), trivial⟩
theorem vc_rectolaw16_PolicyChecks (H : Nat → Entry) (v : c_rectolaw16_PolicyChecks.inp.V) (r : (p : Pat) × p.V) (h : (c_rectolaw16_PolicyChecks.body v).Sel H r) : fnVc (cx_rectolaw16_PolicyChecks) an_rectolaw16_PolicyChecks 0 Try.f3 c_rectolaw16_PolicyChecks.inp [O_rectolaw16_PolicyChecks] v (fun r' => r' = r) := by
  obtain ⟨p, ⟨⟩⟩ := v
  obtain ⟨h, rfl⟩ := h
  exact Eq.mpr (eq_rectolaw16_PolicyChecks p _) (rectolaw16_PolicyChecks.ok _ p h rfl)
theorem ctr_rectolaw16_PolicyChecks : CtrOk Try.prog 3 c_rectolaw16_PolicyChecks := ⟨⟨_, Try.func3, by kernel_rfl, by kernel_rfl⟩, fun H v r h => mk_ok _ (fs_rectolaw16_PolicyChecks) (an := an_rectolaw16_PolicyChecks) (outs := [O_rectolaw16_PolicyChecks]) Try.func3 (by decide) (vc_rectolaw16_PolicyChecks H v r h)⟩
abbrev I_rectolaw16_PolicyActs : Pat := { slots := [(0, .ag (.pair (.sl (.pair .str (.pair (.int .i64) (.pair (.sl .str) (.sl .str))))) (.pair (.sl .str) (.pair (.int .i64) (.int .i64))))), (1, .ag .node), (2, .ag (.pair .str .str))], ents := [] }
abbrev O_rectolaw16_PolicyActs : Pat := { slots := [(0, .ce (.v .bool))], ents := [] }
def c_rectolaw16_PolicyActs : Ctr := { k0 := 0, inp := I_rectolaw16_PolicyActs, body := fun v => .need (Sz (.pair (.sl (.pair .str (.pair (.int .i64) (.pair (.sl .str) (.sl .str))))) (.pair (.sl .str) (.pair (.int .i64) (.int .i64)))) v.1 ∧ Sz .node v.2.1 ∧ Sz (.pair .str .str) v.2.2.1) (.ret ⟨O_rectolaw16_PolicyActs, ((Sp.tt), ())⟩), ex := 0 }
def an_rectolaw16_PolicyActs : Ann := []
def cx_rectolaw16_PolicyActs : Cx := mkCx [(7, [c_rectolaw16_large]), (8, [c_rectolaw16_script]), (9, [c_rectolaw16_ref]), (15, [c_policy_Act]), (16, [c_policy_Stays]), (14, [c_rectoref16_Check]), (17, [c_rectoref16_Act]), (18, [c_rectoref16_Stays])]
theorem eq_rectolaw16_PolicyActs (p : ((List (Str × (Int × ((List Str) × (List Str))))) × ((List Str) × (Int × Int)))) (n : Vi.Node) (a : (Str × Str)) (R : ((p : Pat) × p.V) → Prop) : fnVc (cx_rectolaw16_PolicyActs) an_rectolaw16_PolicyActs 0 Try.f4 I_rectolaw16_PolicyActs [O_rectolaw16_PolicyActs] (p, n, a, ()) R = rectolaw16_PolicyActs.vc (fun y0 => R ⟨O_rectolaw16_PolicyActs, (y0, ())⟩) p n a := by kernel_rfl
theorem fs_rectolaw16_PolicyActs : CtrsOk Try.prog [(7, [c_rectolaw16_large]), (8, [c_rectolaw16_script]), (9, [c_rectolaw16_ref]), (15, [c_policy_Act]), (16, [c_policy_Stays]), (14, [c_rectoref16_Check]), (17, [c_rectoref16_Act]), (18, [c_rectoref16_Stays])] := ⟨ctr1 (ctr_rectolaw16_large), ctr1 (ctr_rectolaw16_script), ctr1 (ctr_rectolaw16_ref), ctr1 (ctr_policy_Act), ctr1 (ctr_policy_Stays), ctr1 (ctr_rectoref16_Check), ctr1 (ctr_rectoref16_Act), ctr1 (ctr_rectoref16_Stays), trivial⟩
theorem vc_rectolaw16_PolicyActs (H : Nat → Entry) (v : c_rectolaw16_PolicyActs.inp.V) (r : (p : Pat) × p.V) (h : (c_rectolaw16_PolicyActs.body v).Sel H r) : fnVc (cx_rectolaw16_PolicyActs) an_rectolaw16_PolicyActs 0 Try.f4 c_rectolaw16_PolicyActs.inp [O_rectolaw16_PolicyActs] v (fun r' => r' = r) := by
  obtain ⟨p, n, a, ⟨⟩⟩ := v
  obtain ⟨h, rfl⟩ := h
  exact Eq.mpr (eq_rectolaw16_PolicyActs p n a _) (rectolaw16_PolicyActs.ok _ p n a h rfl)
theorem ctr_rectolaw16_PolicyActs : CtrOk Try.prog 4 c_rectolaw16_PolicyActs := ⟨⟨_, Try.func4, by kernel_rfl, by kernel_rfl⟩, fun H v r h => mk_ok _ (fs_rectolaw16_PolicyActs) (an := an_rectolaw16_PolicyActs) (outs := [O_rectolaw16_PolicyActs]) Try.func4 (by decide) (vc_rectolaw16_PolicyActs H v r h)⟩
abbrev I_rectolaw16_PolicyHarmless : Pat := { slots := [(0, .ce (.v (.sl .node)))], ents := [] }
abbrev O_rectolaw16_PolicyHarmless : Pat := { slots := [(0, .ce (.v .bool))], ents := [] }
def c_rectolaw16_PolicyHarmless : Ctr := { k0 := 0, inp := I_rectolaw16_PolicyHarmless, body := fun v => .need (Sz (.sl .node) v.1) (.ret ⟨O_rectolaw16_PolicyHarmless, ((Sp.tt), ())⟩), ex := 0 }
def an_rectolaw16_PolicyHarmless : Ann := []
def cx_rectolaw16_PolicyHarmless : Cx := mkCx [(19, [c_rectolaw16_wide]), (8, [c_rectolaw16_script]), (10, [c_policy_Plain]), (20, [c_policy_Allows]), (21, [c_rectolaw16_leafless]), (22, [c_rectolaw16_harmless])]
theorem eq_rectolaw16_PolicyHarmless (l : (List Vi.Node)) (R : ((p : Pat) × p.V) → Prop) : fnVc (cx_rectolaw16_PolicyHarmless) an_rectolaw16_PolicyHarmless 0 Try.f5 I_rectolaw16_PolicyHarmless [O_rectolaw16_PolicyHarmless] (l, ()) R = rectolaw16_PolicyHarmless.vc (fun y0 => R ⟨O_rectolaw16_PolicyHarmless, (y0, ())⟩) l := by kernel_rfl
theorem fs_rectolaw16_PolicyHarmless : CtrsOk Try.prog [(19, [c_rectolaw16_wide]), (8, [c_rectolaw16_script]), (10, [c_policy_Plain]), (20, [c_policy_Allows]), (21, [c_rectolaw16_leafless]), (22, [c_rectolaw16_harmless])] := ⟨ctr1 (ctr_rectolaw16_wide), ctr1 (ctr_rectolaw16_script), ctr1 (ctr_policy_Plain), ctr1 (ctr_policy_Allows), ctr1 (ctr_rectolaw16_leafless), ctr1 (ctr_rectolaw16_harmless), trivial⟩
theorem vc_rectolaw16_PolicyHarmless (H : Nat → Entry) (v : c_rectolaw16_PolicyHarmless.inp.V) (r : (p : Pat) × p.V) (h : (c_rectolaw16_PolicyHarmless.body v).Sel H r) : fnVc (cx_rectolaw16_PolicyHarmless) an_rectolaw16_PolicyHarmless 0 Try.f5 c_rectolaw16_PolicyHarmless.inp [O_rectolaw16_PolicyHarmless] v (fun r' => r' = r) := by
  obtain ⟨l, ⟨⟩⟩ := v
  obtain ⟨h, rfl⟩ := h
  exact Eq.mpr (eq_rectolaw16_PolicyHarmless l _) (rectolaw16_PolicyHarmless.ok _ l h rfl)
theorem ctr_rectolaw16_PolicyHarmless : CtrOk Try.prog 5 c_rectolaw16_PolicyHarmless := ⟨⟨_, Try.func5, by kernel_rfl, by kernel_rfl⟩, fun H v r h => mk_ok _ (fs_rectolaw16_PolicyHarmless) (an := an_rectolaw16_PolicyHarmless) (outs := [O_rectolaw16_PolicyHarmless]) Try.func5 (by decide) (vc_rectolaw16_PolicyHarmless H v r h)⟩
abbrev I_rectolaw16_PolicyParts : Pat := { slots := [(0, .ag (.pair (.sl (.pair .str (.pair (.int .i64) (.pair (.sl .str) (.sl .str))))) (.pair (.sl .str) (.pair (.int .i64) (.int .i64))))), (1, .ce (.v (.sl .node)))], ents := [] }
abbrev O_rectolaw16_PolicyParts : Pat := { slots := [(0, .ce (.v .bool))], ents := [] }
def c_rectolaw16_PolicyParts : Ctr := { k0 := 0, inp := I_rectolaw16_PolicyParts, body := fun v => .need (Sz (.pair (.sl (.pair .str (.pair (.int .i64) (.pair (.sl .str) (.sl .str))))) (.pair (.sl .str) (.pair (.int .i64) (.int .i64)))) v.1 ∧ Sz (.sl .node) v.2.1) (.ret ⟨O_rectolaw16_PolicyParts, ((Sp.tt), ())⟩), ex := 0 }
def an_rectolaw16_PolicyParts : Ann := [(5, { slots := [(1, .ce (.v (.sl .node))), (2, .ce (.ptr 0 0)), (5, .ce (.v .bool)), (20, .ce (.v (.sl .node))), (21, .ce (.v (.int .i64))), (22, .ce (.v (.int .i64)))], ents := [.box 25 [.v (.sl (.pair .str (.pair (.int .i64) (.pair (.sl .str) (.sl .str))))), .v (.sl .str), .v (.int .i64), .v (.int .i64)]] })]
def cx_rectolaw16_PolicyParts : Cx := mkCx [(7, [c_rectolaw16_large]), (19, [c_rectolaw16_wide]), (13, [c_policy_Check]), (8, [c_rectolaw16_script]), (20, [c_policy_Allows])]
theorem eq_rectolaw16_PolicyParts (p : ((List (Str × (Int × ((List Str) × (List Str))))) × ((List Str) × (Int × Int)))) (l : (List Vi.Node)) (R : ((p : Pat) × p.V) → Prop) : fnVc (cx_rectolaw16_PolicyParts) an_rectolaw16_PolicyParts 0 Try.f6 I_rectolaw16_PolicyParts [O_rectolaw16_PolicyParts] (p, l, ()) R = rectolaw16_PolicyParts.vc (fun y0 => R ⟨O_rectolaw16_PolicyParts, (y0, ())⟩) p l := by kernel_rfl
theorem fs_rectolaw16_PolicyParts : CtrsOk Try.prog [(7, [c_rectolaw16_large]), (19, [c_rectolaw16_wide]), (13, [c_policy_Check]), (8, [c_rectolaw16_script]), (20, [c_policy_Allows])] := ⟨ctr1 (ctr_rectolaw16_large), ctr1 (ctr_rectolaw16_wide), ctr1 (ctr_policy_Check), ctr1 (ctr_rectolaw16_script), ctr1 (ctr_policy_Allows), trivial⟩
theorem vc_rectolaw16_PolicyParts (H : Nat → Entry) (v : c_rectolaw16_PolicyParts.inp.V) (r : (p : Pat) × p.V) (h : (c_rectolaw16_PolicyParts.body v).Sel H r) : fnVc (cx_rectolaw16_PolicyParts) an_rectolaw16_PolicyParts 0 Try.f6 c_rectolaw16_PolicyParts.inp [O_rectolaw16_PolicyParts] v (fun r' => r' = r) := by
  obtain ⟨p, l, ⟨⟩⟩ := v
  obtain ⟨h, rfl⟩ := h
  exact Eq.mpr (eq_rectolaw16_PolicyParts p l _) (rectolaw16_PolicyParts.ok _ p l h rfl)
theorem ctr_rectolaw16_PolicyParts : CtrOk Try.prog 6 c_rectolaw16_PolicyParts := ⟨⟨_, Try.func6, by kernel_rfl, by kernel_rfl⟩, fun H v r h => mk_ok _ (fs_rectolaw16_PolicyParts) (an := an_rectolaw16_PolicyParts) (outs := [O_rectolaw16_PolicyParts]) Try.func6 (by decide) (vc_rectolaw16_PolicyParts H v r h)⟩
end Vs
