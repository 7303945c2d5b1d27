/- Functions held against what they tell. Written by a program of this session. -/
import Derived.Test.YtmciagbogdlcoaaGreatDoorPlP
import Derived.Test.YtmciagbogdlcoaaGreatDoorViThree
import Derived.Test.YtmciagbogdlcoaaGreatDoorFnzU
set_option linter.unnecessarySimpa false
set_option linter.unusedVariables false
set_option linter.unusedSectionVars false
set_option linter.unusedSimpArgs false
set_option autoImplicit false
set_option linter.unusedVariables false
set_option maxRecDepth 100000
attribute [local irreducible] Vi.fnVc
namespace Vs
open Go Vi Go.Proofs
abbrev I_tags_Group : Pat := { slots := [(0, .ce (.v .str))], ents := [] }
abbrev O_tags_Group : Pat := { slots := [(0, .ce (.v (.int .i64)))], ents := [] }
def c_tags_Group : Ctr := { k0 := 0, inp := I_tags_Group, body := fun v => .ret ⟨O_tags_Group, ((Sp.groupN v.1), ())⟩, ex := 0 }
def an_tags_Group : Ann := []
def cx_tags_Group : Cx := mkCx [] false true false
theorem eq_tags_Group (name : Str) (R : ((p : Pat) × p.V) → Prop) : fnVc (cx_tags_Group) an_tags_Group 0 Tryz.f45 I_tags_Group [O_tags_Group] (name, ()) R = tags_Group.vc (fun y0 => R ⟨O_tags_Group, (y0, ())⟩) name := by kernel_rfl
theorem fs_tags_Group : CtrsOk Tryz.prog [] gl := trivial
theorem vc_tags_Group (H : Nat → Entry) (v : c_tags_Group.inp.V) (r : (p : Pat) × p.V) (h : (c_tags_Group.body v).Sel H r) : fnVc (cx_tags_Group) an_tags_Group 0 Tryz.f45 c_tags_Group.inp [O_tags_Group] v (fun r' => r' = r) := by
  obtain ⟨name, ⟨⟩⟩ := v
  obtain rfl := h
  exact Eq.mpr (eq_tags_Group name _) (tags_Group.ok _ name  rfl)
theorem ctr_tags_Group : CtrOk Tryz.prog 45 c_tags_Group gl := ⟨⟨_, Tryz.func45, by kernel_rfl, by kernel_rfl⟩, fun H v r h => mk_ok _ (fs_tags_Group) (an := an_tags_Group) (outs := [O_tags_Group]) Tryz.func45 (by decide) (vc_tags_Group H v r h)⟩
abbrev I_pen_small : Pat := { slots := [(0, .ce (.v (.int .u8)))], ents := [] }
abbrev O_pen_small : Pat := { slots := [(0, .ce (.v .bool))], ents := [] }
def c_pen_small : Ctr := { k0 := 0, inp := I_pen_small, body := fun v => .ret ⟨O_pen_small, ((Sp.smallB v.1), ())⟩, ex := 0 }
def an_pen_small : Ann := []
def cx_pen_small : Cx := mkCx []
theorem eq_pen_small (b : Int) (R : ((p : Pat) × p.V) → Prop) : fnVc (cx_pen_small) an_pen_small 0 Tryz.f67 I_pen_small [O_pen_small] (b, ()) R = pen_small.vc (fun y0 => R ⟨O_pen_small, (y0, ())⟩) b := by kernel_rfl
theorem fs_pen_small : CtrsOk Tryz.prog [] gl := trivial
theorem vc_pen_small (H : Nat → Entry) (v : c_pen_small.inp.V) (r : (p : Pat) × p.V) (h : (c_pen_small.body v).Sel H r) : fnVc (cx_pen_small) an_pen_small 0 Tryz.f67 c_pen_small.inp [O_pen_small] v (fun r' => r' = r) := by
  obtain ⟨b, ⟨⟩⟩ := v
  obtain rfl := h
  exact Eq.mpr (eq_pen_small b _) (pen_small.ok _ b  rfl)
theorem ctr_pen_small : CtrOk Tryz.prog 67 c_pen_small gl := ⟨⟨_, Tryz.func67, by kernel_rfl, by kernel_rfl⟩, fun H v r h => mk_ok _ (fs_pen_small) (an := an_pen_small) (outs := [O_pen_small]) Tryz.func67 (by decide) (vc_pen_small H v r h)⟩
abbrev I_pen_Name_1 : Pat := { slots := [(0, .ce (.v (.int .u8)))], ents := [] }
abbrev O_pen_Name_1 : Pat := { slots := [(0, .ce (.v .bool))], ents := [] }
def c_pen_Name_1 : Ctr := { k0 := 0, inp := I_pen_Name_1, body := fun v => .ret ⟨O_pen_Name_1, ((Sp.nameB v.1), ())⟩, ex := 0 }
def an_pen_Name_1 : Ann := []
def cx_pen_Name_1 : Cx := mkCx [(67, [c_pen_small]), (70, [c_chars_Digit])]
theorem eq_pen_Name_1 (b : Int) (R : ((p : Pat) × p.V) → Prop) : fnVc (cx_pen_Name_1) an_pen_Name_1 0 Tryz.f69 I_pen_Name_1 [O_pen_Name_1] (b, ()) R = pen_Name_1.vc (fun y0 => R ⟨O_pen_Name_1, (y0, ())⟩) b := by kernel_rfl
theorem fs_pen_Name_1 : CtrsOk Tryz.prog [(67, [c_pen_small]), (70, [c_chars_Digit])] gl := ⟨ctr1 (ctr_pen_small), ctr1 (ctr_chars_Digit), trivial⟩
theorem vc_pen_Name_1 (H : Nat → Entry) (v : c_pen_Name_1.inp.V) (r : (p : Pat) × p.V) (h : (c_pen_Name_1.body v).Sel H r) : fnVc (cx_pen_Name_1) an_pen_Name_1 0 Tryz.f69 c_pen_Name_1.inp [O_pen_Name_1] v (fun r' => r' = r) := by
  obtain ⟨b, ⟨⟩⟩ := v
  obtain rfl := h
  exact Eq.mpr (eq_pen_Name_1 b _) (pen_Name_1.ok _ b  rfl)
theorem ctr_pen_Name_1 : CtrOk Tryz.prog 69 c_pen_Name_1 gl := ⟨⟨_, Tryz.func69, by kernel_rfl, by kernel_rfl⟩, fun H v r h => mk_ok _ (fs_pen_Name_1) (an := an_pen_Name_1) (outs := [O_pen_Name_1]) Tryz.func69 (by decide) (vc_pen_Name_1 H v r h)⟩
abbrev I_pen_all : Pat := { slots := [(0, .ce (.v .str)), (1, .ce (.fn 69 [] []))], ents := [] }
abbrev O_pen_all : Pat := { slots := [(0, .ce (.v .bool))], ents := [] }
def c_pen_all : Ctr := { k0 := 0, inp := I_pen_all, body := fun v => .need (Sp.allN.pre v.1) (.ret ⟨O_pen_all, (Sp.allN v.1, ())⟩), ex := 0 }
def an_pen_all : Ann := [(2, { slots := [(0, .ce (.v .str)), (1, .ce (.fn 69 [] [])), (7, .ce (.v (.int .i64))), (8, .ce (.v (.int .i64)))], ents := [] })]
def cx_pen_all : Cx := mkCx [(69, [c_pen_Name_1])]
theorem eq_pen_all (s : Str) (R : ((p : Pat) × p.V) → Prop) : fnVc (cx_pen_all) an_pen_all 0 Tryz.f68 I_pen_all [O_pen_all] (s, ()) R = pen_all.vc (fun y0 => R ⟨O_pen_all, (y0, ())⟩) s := by kernel_rfl
theorem fs_pen_all : CtrsOk Tryz.prog [(69, [c_pen_Name_1])] gl := ⟨ctr1 (ctr_pen_Name_1), trivial⟩
theorem vc_pen_all (H : Nat → Entry) (v : c_pen_all.inp.V) (r : (p : Pat) × p.V) (h : (c_pen_all.body v).Sel H r) : fnVc (cx_pen_all) an_pen_all 0 Tryz.f68 c_pen_all.inp [O_pen_all] v (fun r' => r' = r) := by
  obtain ⟨s, ⟨⟩⟩ := v
  obtain ⟨h, rfl⟩ := h
  exact Eq.mpr (eq_pen_all s _) (pen_all.ok _ s h rfl)
theorem ctr_pen_all : CtrOk Tryz.prog 68 c_pen_all gl := ⟨⟨_, Tryz.func68, by kernel_rfl, by kernel_rfl⟩, fun H v r h => mk_ok _ (fs_pen_all) (an := an_pen_all) (outs := [O_pen_all]) Tryz.func68 (by decide) (vc_pen_all H v r h)⟩
abbrev I_pen_Name : Pat := { slots := [(0, .ce (.v .str))], ents := [] }
abbrev O_pen_Name : Pat := { slots := [(0, .ce (.v .bool))], ents := [] }
def c_pen_Name : Ctr := { k0 := 0, inp := I_pen_Name, body := fun v => .ret ⟨O_pen_Name, ((Sp.nameS v.1), ())⟩, ex := 0 }
def an_pen_Name : Ann := []
def cx_pen_Name : Cx := mkCx [(67, [c_pen_small]), (68, [c_pen_all]), (69, [c_pen_Name_1])]
theorem eq_pen_Name (s : Str) (R : ((p : Pat) × p.V) → Prop) : fnVc (cx_pen_Name) an_pen_Name 0 Tryz.f55 I_pen_Name [O_pen_Name] (s, ()) R = pen_Name.vc (fun y0 => R ⟨O_pen_Name, (y0, ())⟩) s := by kernel_rfl
theorem fs_pen_Name : CtrsOk Tryz.prog [(67, [c_pen_small]), (68, [c_pen_all]), (69, [c_pen_Name_1])] gl := ⟨ctr1 (ctr_pen_small), ctr1 (ctr_pen_all), ctr1 (ctr_pen_Name_1), trivial⟩
theorem vc_pen_Name (H : Nat → Entry) (v : c_pen_Name.inp.V) (r : (p : Pat) × p.V) (h : (c_pen_Name.body v).Sel H r) : fnVc (cx_pen_Name) an_pen_Name 0 Tryz.f55 c_pen_Name.inp [O_pen_Name] v (fun r' => r' = r) := by
  obtain ⟨s, ⟨⟩⟩ := v
  obtain rfl := h
  exact Eq.mpr (eq_pen_Name s _) (pen_Name.ok _ s  rfl)
theorem ctr_pen_Name : CtrOk Tryz.prog 55 c_pen_Name gl := ⟨⟨_, Tryz.func55, by kernel_rfl, by kernel_rfl⟩, fun H v r h => mk_ok _ (fs_pen_Name) (an := an_pen_Name) (outs := [O_pen_Name]) Tryz.func55 (by decide) (vc_pen_Name H v r h)⟩
abbrev I_policy_gone : Pat := { slots := [(0, .ce (.v .str))], ents := [] }
abbrev O_policy_gone : Pat := { slots := [(0, .ce (.v .bool))], ents := [] }
def c_policy_gone : Ctr := { k0 := 0, inp := I_policy_gone, body := fun v => .ret ⟨O_policy_gone, ((Sp.goneN v.1), ())⟩, ex := 0 }
def an_policy_gone : Ann := []
def cx_policy_gone : Cx := mkCx [(45, [c_tags_Group])]
theorem eq_policy_gone (name : Str) (R : ((p : Pat) × p.V) → Prop) : fnVc (cx_policy_gone) an_policy_gone 0 Tryz.f56 I_policy_gone [O_policy_gone] (name, ()) R = policy_gone.vc (fun y0 => R ⟨O_policy_gone, (y0, ())⟩) name := by kernel_rfl
theorem fs_policy_gone : CtrsOk Tryz.prog [(45, [c_tags_Group])] gl := ⟨ctr1 (ctr_tags_Group), trivial⟩
theorem vc_policy_gone (H : Nat → Entry) (v : c_policy_gone.inp.V) (r : (p : Pat) × p.V) (h : (c_policy_gone.body v).Sel H r) : fnVc (cx_policy_gone) an_policy_gone 0 Tryz.f56 c_policy_gone.inp [O_policy_gone] v (fun r' => r' = r) := by
  obtain ⟨name, ⟨⟩⟩ := v
  obtain rfl := h
  exact Eq.mpr (eq_policy_gone name _) (policy_gone.ok _ name  rfl)
theorem ctr_policy_gone : CtrOk Tryz.prog 56 c_policy_gone gl := ⟨⟨_, Tryz.func56, by kernel_rfl, by kernel_rfl⟩, fun H v r h => mk_ok _ (fs_policy_gone) (an := an_policy_gone) (outs := [O_policy_gone]) Tryz.func56 (by decide) (vc_policy_gone H v r h)⟩
abbrev I_policy_short_1 : Pat := { slots := [(0, .ag (.pair .str (.pair (.int .i64) (.pair (.sl .str) (.sl .str)))))], ents := [] }
abbrev O_policy_short_1 : Pat := { slots := [(0, .ce (.v .bool))], ents := [] }
def c_policy_short_1 : Ctr := { k0 := 0, inp := I_policy_short_1, body := fun v => .ret ⟨O_policy_short_1, ((Sp.wideR v.1), ())⟩, ex := 0 }
def an_policy_short_1 : Ann := []
def cx_policy_short_1 : Cx := mkCx []
theorem eq_policy_short_1 (r : (Str × (Int × ((List Str) × (List Str))))) (R : ((p : Pat) × p.V) → Prop) : fnVc (cx_policy_short_1) an_policy_short_1 0 Tryz.f30 I_policy_short_1 [O_policy_short_1] (r, ()) R = policy_short_1.vc (fun y0 => R ⟨O_policy_short_1, (y0, ())⟩) r := by kernel_rfl
theorem fs_policy_short_1 : CtrsOk Tryz.prog [] gl := trivial
theorem vc_policy_short_1 (H : Nat → Entry) (v : c_policy_short_1.inp.V) (r : (p : Pat) × p.V) (h : (c_policy_short_1.body v).Sel H r) : fnVc (cx_policy_short_1) an_policy_short_1 0 Tryz.f30 c_policy_short_1.inp [O_policy_short_1] v (fun r' => r' = r) := by
  obtain ⟨r, ⟨⟩⟩ := v
  obtain rfl := h
  exact Eq.mpr (eq_policy_short_1 r _) (policy_short_1.ok _ r  rfl)
theorem ctr_policy_short_1 : CtrOk Tryz.prog 30 c_policy_short_1 gl := ⟨⟨_, Tryz.func30, by kernel_rfl, by kernel_rfl⟩, fun H v r h => mk_ok _ (fs_policy_short_1) (an := an_policy_short_1) (outs := [O_policy_short_1]) Tryz.func30 (by decide) (vc_policy_short_1 H v r h)⟩
abbrev I_policy_formed_1 : Pat := { slots := [(0, .ce (.v (.int .i64)))], ents := [] }
abbrev O_policy_formed_1 : Pat := { slots := [(0, .ce (.v .bool))], ents := [] }
def c_policy_formed_1 : Ctr := { k0 := 0, inp := I_policy_formed_1, body := fun v => .ret ⟨O_policy_formed_1, ((Sp.awayB v.1), ())⟩, ex := 0 }
def an_policy_formed_1 : Ann := []
def cx_policy_formed_1 : Cx := mkCx []
theorem eq_policy_formed_1 (act : Int) (R : ((p : Pat) × p.V) → Prop) : fnVc (cx_policy_formed_1) an_policy_formed_1 0 Tryz.f33 I_policy_formed_1 [O_policy_formed_1] (act, ()) R = policy_formed_1.vc (fun y0 => R ⟨O_policy_formed_1, (y0, ())⟩) act := by kernel_rfl
theorem fs_policy_formed_1 : CtrsOk Tryz.prog [] gl := trivial
theorem vc_policy_formed_1 (H : Nat → Entry) (v : c_policy_formed_1.inp.V) (r : (p : Pat) × p.V) (h : (c_policy_formed_1.body v).Sel H r) : fnVc (cx_policy_formed_1) an_policy_formed_1 0 Tryz.f33 c_policy_formed_1.inp [O_policy_formed_1] v (fun r' => r' = r) := by
  obtain ⟨act, ⟨⟩⟩ := v
  obtain rfl := h
  exact Eq.mpr (eq_policy_formed_1 act _) (policy_formed_1.ok _ act  rfl)
theorem ctr_policy_formed_1 : CtrOk Tryz.prog 33 c_policy_formed_1 gl := ⟨⟨_, Tryz.func33, by kernel_rfl, by kernel_rfl⟩, fun H v r h => mk_ok _ (fs_policy_formed_1) (an := an_policy_formed_1) (outs := [O_policy_formed_1]) Tryz.func33 (by decide) (vc_policy_formed_1 H v r h)⟩
abbrev I_policy_formed_2 : Pat := { slots := [(0, .ce (.v .str))], ents := [] }
abbrev O_policy_formed_2 : Pat := { slots := [(0, .ce (.v .bool))], ents := [] }
def c_policy_formed_2 : Ctr := { k0 := 0, inp := I_policy_formed_2, body := fun v => .need (Sp.oddS.pre v.1) (.ret ⟨O_policy_formed_2, ((Sp.oddS v.1), ())⟩), ex := 0 }
def an_policy_formed_2 : Ann := []
def cx_policy_formed_2 : Cx := mkCx [(36, [c_chars_Lower])]
theorem eq_policy_formed_2 (s : Str) (R : ((p : Pat) × p.V) → Prop) : fnVc (cx_policy_formed_2) an_policy_formed_2 0 Tryz.f35 I_policy_formed_2 [O_policy_formed_2] (s, ()) R = policy_formed_2.vc (fun y0 => R ⟨O_policy_formed_2, (y0, ())⟩) s := by kernel_rfl
theorem fs_policy_formed_2 : CtrsOk Tryz.prog [(36, [c_chars_Lower])] gl := ⟨ctr1 (ctr_chars_Lower), trivial⟩
theorem vc_policy_formed_2 (H : Nat → Entry) (v : c_policy_formed_2.inp.V) (r : (p : Pat) × p.V) (h : (c_policy_formed_2.body v).Sel H r) : fnVc (cx_policy_formed_2) an_policy_formed_2 0 Tryz.f35 c_policy_formed_2.inp [O_policy_formed_2] v (fun r' => r' = r) := by
  obtain ⟨s, ⟨⟩⟩ := v
  obtain ⟨h, rfl⟩ := h
  exact Eq.mpr (eq_policy_formed_2 s _) (policy_formed_2.ok _ s h rfl)
theorem ctr_policy_formed_2 : CtrOk Tryz.prog 35 c_policy_formed_2 gl := ⟨⟨_, Tryz.func35, by kernel_rfl, by kernel_rfl⟩, fun H v r h => mk_ok _ (fs_policy_formed_2) (an := an_policy_formed_2) (outs := [O_policy_formed_2]) Tryz.func35 (by decide) (vc_policy_formed_2 H v r h)⟩
abbrev I_policy_right_1 : Pat := { slots := [(0, .ce (.v .str))], ents := [] }
abbrev O_policy_right_1 : Pat := { slots := [(0, .ce (.v .bool))], ents := [] }
def c_policy_right_1 : Ctr := { k0 := 0, inp := I_policy_right_1, body := fun v => .ret ⟨O_policy_right_1, ((Sp.notName v.1), ())⟩, ex := 0 }
def an_policy_right_1 : Ann := []
def cx_policy_right_1 : Cx := mkCx [(55, [c_pen_Name])]
theorem eq_policy_right_1 (s : Str) (R : ((p : Pat) × p.V) → Prop) : fnVc (cx_policy_right_1) an_policy_right_1 0 Tryz.f54 I_policy_right_1 [O_policy_right_1] (s, ()) R = policy_right_1.vc (fun y0 => R ⟨O_policy_right_1, (y0, ())⟩) s := by kernel_rfl
theorem fs_policy_right_1 : CtrsOk Tryz.prog [(55, [c_pen_Name])] gl := ⟨ctr1 (ctr_pen_Name), trivial⟩
theorem vc_policy_right_1 (H : Nat → Entry) (v : c_policy_right_1.inp.V) (r : (p : Pat) × p.V) (h : (c_policy_right_1.body v).Sel H r) : fnVc (cx_policy_right_1) an_policy_right_1 0 Tryz.f54 c_policy_right_1.inp [O_policy_right_1] v (fun r' => r' = r) := by
  obtain ⟨s, ⟨⟩⟩ := v
  obtain rfl := h
  exact Eq.mpr (eq_policy_right_1 s _) (policy_right_1.ok _ s  rfl)
theorem ctr_policy_right_1 : CtrOk Tryz.prog 54 c_policy_right_1 gl := ⟨⟨_, Tryz.func54, by kernel_rfl, by kernel_rfl⟩, fun H v r h => mk_ok _ (fs_policy_right_1) (an := an_policy_right_1) (outs := [O_policy_right_1]) Tryz.func54 (by decide) (vc_policy_right_1 H v r h)⟩
abbrev I_Index_wide : Pat := { slots := [(0, .ce (.v (.sl (.pair .str (.pair (.int .i64) (.pair (.sl .str) (.sl .str))))))), (1, .ce (.fn 30 [] []))], ents := [] }
abbrev O_Index_wide : Pat := { slots := [(0, .ce (.v (.int .i64)))], ents := [] }
def c_Index_wide : Ctr := { k0 := 0, inp := I_Index_wide, body := fun v => .need (Sp.rules.pre v.1) (.ret ⟨O_Index_wide, (Sp.idxWide v.1, ())⟩), ex := 0 }
def an_Index_wide : Ann := [(2, { slots := [(0, .ce (.v (.sl (.pair .str (.pair (.int .i64) (.pair (.sl .str) (.sl .str))))))), (1, .ce (.fn 30 [] [])), (7, .ce (.v (.int .i64))), (8, .ce (.v (.int .i64)))], ents := [] })]
def cx_Index_wide : Cx := mkCx [(30, [c_policy_short_1])]
theorem eq_Index_wide (l : (List (Str × (Int × ((List Str) × (List Str)))))) (R : ((p : Pat) × p.V) → Prop) : fnVc (cx_Index_wide) an_Index_wide 0 Tryz.f50 I_Index_wide [O_Index_wide] (l, ()) R = Index_wide.vc (fun y0 => R ⟨O_Index_wide, (y0, ())⟩) l := by kernel_rfl
theorem fs_Index_wide : CtrsOk Tryz.prog [(30, [c_policy_short_1])] gl := ⟨ctr1 (ctr_policy_short_1), trivial⟩
theorem vc_Index_wide (H : Nat → Entry) (v : c_Index_wide.inp.V) (r : (p : Pat) × p.V) (h : (c_Index_wide.body v).Sel H r) : fnVc (cx_Index_wide) an_Index_wide 0 Tryz.f50 c_Index_wide.inp [O_Index_wide] v (fun r' => r' = r) := by
  obtain ⟨l, ⟨⟩⟩ := v
  obtain ⟨h, rfl⟩ := h
  exact Eq.mpr (eq_Index_wide l _) (Index_wide.ok _ l h rfl)
theorem ctr_Index_wide : CtrOk Tryz.prog 50 c_Index_wide gl := ⟨⟨_, Tryz.func50, by kernel_rfl, by kernel_rfl⟩, fun H v r h => mk_ok _ (fs_Index_wide) (an := an_Index_wide) (outs := [O_Index_wide]) Tryz.func50 (by decide) (vc_Index_wide H v r h)⟩
abbrev I_Contains_wide : Pat := { slots := [(0, .ce (.v (.sl (.pair .str (.pair (.int .i64) (.pair (.sl .str) (.sl .str))))))), (1, .ce (.fn 30 [] []))], ents := [] }
abbrev O_Contains_wide : Pat := { slots := [(0, .ce (.v .bool))], ents := [] }
def c_Contains_wide : Ctr := { k0 := 0, inp := I_Contains_wide, body := fun v => .need (Sp.rules.pre v.1) (.ret ⟨O_Contains_wide, (Sp.anyWide v.1, ())⟩), ex := 0 }
def an_Contains_wide : Ann := []
def cx_Contains_wide : Cx := mkCx [(50, [c_Index_wide])]
theorem eq_Contains_wide (l : (List (Str × (Int × ((List Str) × (List Str)))))) (R : ((p : Pat) × p.V) → Prop) : fnVc (cx_Contains_wide) an_Contains_wide 0 Tryz.f29 I_Contains_wide [O_Contains_wide] (l, ()) R = Contains_wide.vc (fun y0 => R ⟨O_Contains_wide, (y0, ())⟩) l := by kernel_rfl
theorem fs_Contains_wide : CtrsOk Tryz.prog [(50, [c_Index_wide])] gl := ⟨ctr1 (ctr_Index_wide), trivial⟩
theorem vc_Contains_wide (H : Nat → Entry) (v : c_Contains_wide.inp.V) (r : (p : Pat) × p.V) (h : (c_Contains_wide.body v).Sel H r) : fnVc (cx_Contains_wide) an_Contains_wide 0 Tryz.f29 c_Contains_wide.inp [O_Contains_wide] v (fun r' => r' = r) := by
  obtain ⟨l, ⟨⟩⟩ := v
  obtain ⟨h, rfl⟩ := h
  exact Eq.mpr (eq_Contains_wide l _) (Contains_wide.ok _ l h rfl)
theorem ctr_Contains_wide : CtrOk Tryz.prog 29 c_Contains_wide gl := ⟨⟨_, Tryz.func29, by kernel_rfl, by kernel_rfl⟩, fun H v r h => mk_ok _ (fs_Contains_wide) (an := an_Contains_wide) (outs := [O_Contains_wide]) Tryz.func29 (by decide) (vc_Contains_wide H v r h)⟩
abbrev I_Index_nn : Pat := { slots := [(0, .ce (.v (.sl .str))), (1, .ce (.fn 54 [] []))], ents := [] }
abbrev O_Index_nn : Pat := { slots := [(0, .ce (.v (.int .i64)))], ents := [] }
def c_Index_nn : Ctr := { k0 := 0, inp := I_Index_nn, body := fun v => .need (Sp.strs.pre v.1) (.ret ⟨O_Index_nn, (Sp.idxNN v.1, ())⟩), ex := 0 }
def an_Index_nn : Ann := [(2, { slots := [(0, .ce (.v (.sl .str))), (1, .ce (.fn 54 [] [])), (7, .ce (.v (.int .i64))), (8, .ce (.v (.int .i64)))], ents := [] })]
def cx_Index_nn : Cx := mkCx [(54, [c_policy_right_1])]
theorem eq_Index_nn (l : (List Str)) (R : ((p : Pat) × p.V) → Prop) : fnVc (cx_Index_nn) an_Index_nn 0 Tryz.f53 I_Index_nn [O_Index_nn] (l, ()) R = Index_nn.vc (fun y0 => R ⟨O_Index_nn, (y0, ())⟩) l := by kernel_rfl
theorem fs_Index_nn : CtrsOk Tryz.prog [(54, [c_policy_right_1])] gl := ⟨ctr1 (ctr_policy_right_1), trivial⟩
theorem vc_Index_nn (H : Nat → Entry) (v : c_Index_nn.inp.V) (r : (p : Pat) × p.V) (h : (c_Index_nn.body v).Sel H r) : fnVc (cx_Index_nn) an_Index_nn 0 Tryz.f53 c_Index_nn.inp [O_Index_nn] v (fun r' => r' = r) := by
  obtain ⟨l, ⟨⟩⟩ := v
  obtain ⟨h, rfl⟩ := h
  exact Eq.mpr (eq_Index_nn l _) (Index_nn.ok _ l h rfl)
theorem ctr_Index_nn : CtrOk Tryz.prog 53 c_Index_nn gl := ⟨⟨_, Tryz.func53, by kernel_rfl, by kernel_rfl⟩, fun H v r h => mk_ok _ (fs_Index_nn) (an := an_Index_nn) (outs := [O_Index_nn]) Tryz.func53 (by decide) (vc_Index_nn H v r h)⟩
abbrev I_Contains_nn : Pat := { slots := [(0, .ce (.v (.sl .str))), (1, .ce (.fn 54 [] []))], ents := [] }
abbrev O_Contains_nn : Pat := { slots := [(0, .ce (.v .bool))], ents := [] }
def c_Contains_nn : Ctr := { k0 := 0, inp := I_Contains_nn, body := fun v => .need (Sp.strs.pre v.1) (.ret ⟨O_Contains_nn, (Sp.anyNN v.1, ())⟩), ex := 0 }
def an_Contains_nn : Ann := []
def cx_Contains_nn : Cx := mkCx [(53, [c_Index_nn])]
theorem eq_Contains_nn (l : (List Str)) (R : ((p : Pat) × p.V) → Prop) : fnVc (cx_Contains_nn) an_Contains_nn 0 Tryz.f34 I_Contains_nn [O_Contains_nn] (l, ()) R = Contains_nn.vc (fun y0 => R ⟨O_Contains_nn, (y0, ())⟩) l := by kernel_rfl
theorem fs_Contains_nn : CtrsOk Tryz.prog [(53, [c_Index_nn])] gl := ⟨ctr1 (ctr_Index_nn), trivial⟩
theorem vc_Contains_nn (H : Nat → Entry) (v : c_Contains_nn.inp.V) (r : (p : Pat) × p.V) (h : (c_Contains_nn.body v).Sel H r) : fnVc (cx_Contains_nn) an_Contains_nn 0 Tryz.f34 c_Contains_nn.inp [O_Contains_nn] v (fun r' => r' = r) := by
  obtain ⟨l, ⟨⟩⟩ := v
  obtain ⟨h, rfl⟩ := h
  exact Eq.mpr (eq_Contains_nn l _) (Contains_nn.ok _ l h rfl)
theorem ctr_Contains_nn : CtrOk Tryz.prog 34 c_Contains_nn gl := ⟨⟨_, Tryz.func34, by kernel_rfl, by kernel_rfl⟩, fun H v r h => mk_ok _ (fs_Contains_nn) (an := an_Contains_nn) (outs := [O_Contains_nn]) Tryz.func34 (by decide) (vc_Contains_nn H v r h)⟩
abbrev I_Index_odd : Pat := { slots := [(0, .ce (.v (.sl .str))), (1, .ce (.fn 35 [] []))], ents := [] }
abbrev O_Index_odd : Pat := { slots := [(0, .ce (.v (.int .i64)))], ents := [] }
def c_Index_odd : Ctr := { k0 := 0, inp := I_Index_odd, body := fun v => .need (Sp.strs.pre v.1) (.ret ⟨O_Index_odd, (Sp.idxOdd v.1, ())⟩), ex := 0 }
def an_Index_odd : Ann := [(2, { slots := [(0, .ce (.v (.sl .str))), (1, .ce (.fn 35 [] [])), (7, .ce (.v (.int .i64))), (8, .ce (.v (.int .i64)))], ents := [] })]
def cx_Index_odd : Cx := mkCx [(35, [c_policy_formed_2])]
theorem eq_Index_odd (l : (List Str)) (R : ((p : Pat) × p.V) → Prop) : fnVc (cx_Index_odd) an_Index_odd 0 Tryz.f53 I_Index_odd [O_Index_odd] (l, ()) R = Index_odd.vc (fun y0 => R ⟨O_Index_odd, (y0, ())⟩) l := by kernel_rfl
theorem fs_Index_odd : CtrsOk Tryz.prog [(35, [c_policy_formed_2])] gl := ⟨ctr1 (ctr_policy_formed_2), trivial⟩
theorem vc_Index_odd (H : Nat → Entry) (v : c_Index_odd.inp.V) (r : (p : Pat) × p.V) (h : (c_Index_odd.body v).Sel H r) : fnVc (cx_Index_odd) an_Index_odd 0 Tryz.f53 c_Index_odd.inp [O_Index_odd] v (fun r' => r' = r) := by
  obtain ⟨l, ⟨⟩⟩ := v
  obtain ⟨h, rfl⟩ := h
  exact Eq.mpr (eq_Index_odd l _) (Index_odd.ok _ l h rfl)
theorem ctr_Index_odd : CtrOk Tryz.prog 53 c_Index_odd gl := ⟨⟨_, Tryz.func53, by kernel_rfl, by kernel_rfl⟩, fun H v r h => mk_ok _ (fs_Index_odd) (an := an_Index_odd) (outs := [O_Index_odd]) Tryz.func53 (by decide) (vc_Index_odd H v r h)⟩
abbrev I_Contains_odd : Pat := { slots := [(0, .ce (.v (.sl .str))), (1, .ce (.fn 35 [] []))], ents := [] }
abbrev O_Contains_odd : Pat := { slots := [(0, .ce (.v .bool))], ents := [] }
def c_Contains_odd : Ctr := { k0 := 0, inp := I_Contains_odd, body := fun v => .need (Sp.strs.pre v.1) (.ret ⟨O_Contains_odd, (Sp.anyOdd v.1, ())⟩), ex := 0 }
def an_Contains_odd : Ann := []
def cx_Contains_odd : Cx := mkCx [(53, [c_Index_odd])]
theorem eq_Contains_odd (l : (List Str)) (R : ((p : Pat) × p.V) → Prop) : fnVc (cx_Contains_odd) an_Contains_odd 0 Tryz.f34 I_Contains_odd [O_Contains_odd] (l, ()) R = Contains_odd.vc (fun y0 => R ⟨O_Contains_odd, (y0, ())⟩) l := by kernel_rfl
theorem fs_Contains_odd : CtrsOk Tryz.prog [(53, [c_Index_odd])] gl := ⟨ctr1 (ctr_Index_odd), trivial⟩
theorem vc_Contains_odd (H : Nat → Entry) (v : c_Contains_odd.inp.V) (r : (p : Pat) × p.V) (h : (c_Contains_odd.body v).Sel H r) : fnVc (cx_Contains_odd) an_Contains_odd 0 Tryz.f34 c_Contains_odd.inp [O_Contains_odd] v (fun r' => r' = r) := by
  obtain ⟨l, ⟨⟩⟩ := v
  obtain ⟨h, rfl⟩ := h
  exact Eq.mpr (eq_Contains_odd l _) (Contains_odd.ok _ l h rfl)
theorem ctr_Contains_odd : CtrOk Tryz.prog 34 c_Contains_odd gl := ⟨⟨_, Tryz.func34, by kernel_rfl, by kernel_rfl⟩, fun H v r h => mk_ok _ (fs_Contains_odd) (an := an_Contains_odd) (outs := [O_Contains_odd]) Tryz.func34 (by decide) (vc_Contains_odd H v r h)⟩
abbrev I_slices_Grow_string_string : Pat := { slots := [(0, .ce .nils), (1, .ce (.v (.int .i64)))], ents := [] }
abbrev O_slices_Grow_string_string : Pat := { slots := [(0, .ce (.os 0))], ents := [.row 9 .str] }
def c_slices_Grow_string_string : Ctr := { k0 := 0, inp := I_slices_Grow_string_string, body := fun v => .need (Sp.growP v.1) (.ret ⟨O_slices_Grow_string_string, (([] : List Str), ())⟩), ex := 0 }
def an_slices_Grow_string_string : Ann := []
def cx_slices_Grow_string_string : Cx := mkCx []
theorem eq_slices_Grow_string_string (n : Int) (R : ((p : Pat) × p.V) → Prop) : fnVc (cx_slices_Grow_string_string) an_slices_Grow_string_string 0 Tryz.f66 I_slices_Grow_string_string [O_slices_Grow_string_string] (n, ()) R = slices_Grow_string_string.vc (fun y0 => R ⟨O_slices_Grow_string_string, (y0, ())⟩) n := by kernel_rfl
theorem fs_slices_Grow_string_string : CtrsOk Tryz.prog [] gl := trivial
theorem vc_slices_Grow_string_string (H : Nat → Entry) (v : c_slices_Grow_string_string.inp.V) (r : (p : Pat) × p.V) (h : (c_slices_Grow_string_string.body v).Sel H r) : fnVc (cx_slices_Grow_string_string) an_slices_Grow_string_string 0 Tryz.f66 c_slices_Grow_string_string.inp [O_slices_Grow_string_string] v (fun r' => r' = r) := by
  obtain ⟨n, ⟨⟩⟩ := v
  obtain ⟨h, rfl⟩ := h
  exact Eq.mpr (eq_slices_Grow_string_string n _) (slices_Grow_string_string.ok _ n h rfl)
theorem ctr_slices_Grow_string_string : CtrOk Tryz.prog 66 c_slices_Grow_string_string gl := ⟨⟨_, Tryz.func66, by kernel_rfl, by kernel_rfl⟩, fun H v r h => mk_ok _ (fs_slices_Grow_string_string) (an := an_slices_Grow_string_string) (outs := [O_slices_Grow_string_string]) Tryz.func66 (by decide) (vc_slices_Grow_string_string H v r h)⟩
abbrev I_slices_Concat_string_string : Pat := { slots := [(0, .ce (.v (.sl (.sl .str))))], ents := [] }
abbrev O_slices_Concat_string_string : Pat := { slots := [(0, .ce (.v (.sl .str)))], ents := [] }
def c_slices_Concat_string_string : Ctr := { k0 := 0, inp := I_slices_Concat_string_string, body := fun v => .need (Sp.concatS.pre v.1) (.ret ⟨O_slices_Concat_string_string, ((Sp.concatS v.1), ())⟩), ex := 0 }
def an_slices_Concat_string_string : Ann := [(3, { slots := [(0, .ce (.v (.sl (.sl .str)))), (3, .ce (.v (.int .i64))), (9, .ce (.v (.sl (.sl .str)))), (10, .ce (.v (.int .i64))), (11, .ce (.v (.int .i64)))], ents := [] }), (11, { slots := [(6, .ce (.os 0)), (25, .ce (.v (.sl (.sl .str)))), (26, .ce (.v (.int .i64))), (27, .ce (.v (.int .i64)))], ents := [.row 9 .str] })]
def cx_slices_Concat_string_string : Cx := mkCx [(66, [c_slices_Grow_string_string])]
theorem eq_slices_Concat_string_string (slices : (List (List Str))) (R : ((p : Pat) × p.V) → Prop) : fnVc (cx_slices_Concat_string_string) an_slices_Concat_string_string 0 Tryz.f52 I_slices_Concat_string_string [O_slices_Concat_string_string] (slices, ()) R = slices_Concat_string_string.vc (fun y0 => R ⟨O_slices_Concat_string_string, (y0, ())⟩) slices := by kernel_rfl
theorem fs_slices_Concat_string_string : CtrsOk Tryz.prog [(66, [c_slices_Grow_string_string])] gl := ⟨ctr1 (ctr_slices_Grow_string_string), trivial⟩
theorem vc_slices_Concat_string_string (H : Nat → Entry) (v : c_slices_Concat_string_string.inp.V) (r : (p : Pat) × p.V) (h : (c_slices_Concat_string_string.body v).Sel H r) : fnVc (cx_slices_Concat_string_string) an_slices_Concat_string_string 0 Tryz.f52 c_slices_Concat_string_string.inp [O_slices_Concat_string_string] v (fun r' => r' = r) := by
  obtain ⟨slices, ⟨⟩⟩ := v
  obtain ⟨h, rfl⟩ := h
  exact Eq.mpr (eq_slices_Concat_string_string slices _) (slices_Concat_string_string.ok _ slices h rfl)
theorem ctr_slices_Concat_string_string : CtrOk Tryz.prog 52 c_slices_Concat_string_string gl := ⟨⟨_, Tryz.func52, by kernel_rfl, by kernel_rfl⟩, fun H v r h => mk_ok _ (fs_slices_Concat_string_string) (an := an_slices_Concat_string_string) (outs := [O_slices_Concat_string_string]) Tryz.func52 (by decide) (vc_slices_Concat_string_string H v r h)⟩
abbrev I_policy_Rule_names : Pat := { slots := [(0, .ag (.pair .str (.pair (.int .i64) (.pair (.sl .str) (.sl .str)))))], ents := [] }
abbrev O_policy_Rule_names : Pat := { slots := [(0, .ce (.v (.sl .str)))], ents := [] }
def c_policy_Rule_names : Ctr := { k0 := 0, inp := I_policy_Rule_names, body := fun v => .need (Sp.ruleOkk v.1) (.ret ⟨O_policy_Rule_names, ((Sp.namesR v.1), ())⟩), ex := 0 }
def an_policy_Rule_names : Ann := []
def cx_policy_Rule_names : Cx := mkCx [(52, [c_slices_Concat_string_string])]
theorem eq_policy_Rule_names (r : (Str × (Int × ((List Str) × (List Str))))) (R : ((p : Pat) × p.V) → Prop) : fnVc (cx_policy_Rule_names) an_policy_Rule_names 0 Tryz.f32 I_policy_Rule_names [O_policy_Rule_names] (r, ()) R = policy_Rule_names.vc (fun y0 => R ⟨O_policy_Rule_names, (y0, ())⟩) r := by kernel_rfl
theorem fs_policy_Rule_names : CtrsOk Tryz.prog [(52, [c_slices_Concat_string_string])] gl := ⟨ctr1 (ctr_slices_Concat_string_string), trivial⟩
theorem vc_policy_Rule_names (H : Nat → Entry) (v : c_policy_Rule_names.inp.V) (r : (p : Pat) × p.V) (h : (c_policy_Rule_names.body v).Sel H r) : fnVc (cx_policy_Rule_names) an_policy_Rule_names 0 Tryz.f32 c_policy_Rule_names.inp [O_policy_Rule_names] v (fun r' => r' = r) := by
  obtain ⟨r, ⟨⟩⟩ := v
  obtain ⟨h, rfl⟩ := h
  exact Eq.mpr (eq_policy_Rule_names r _) (policy_Rule_names.ok _ r h rfl)
theorem ctr_policy_Rule_names : CtrOk Tryz.prog 32 c_policy_Rule_names gl := ⟨⟨_, Tryz.func32, by kernel_rfl, by kernel_rfl⟩, fun H v r h => mk_ok _ (fs_policy_Rule_names) (an := an_policy_Rule_names) (outs := [O_policy_Rule_names]) Tryz.func32 (by decide) (vc_policy_Rule_names H v r h)⟩
abbrev I_policy_twice : Pat := { slots := [(0, .ce (.v (.sl .str)))], ents := [] }
abbrev O_policy_twice : Pat := { slots := [(0, .ce (.v .bool))], ents := [] }
def c_policy_twice : Ctr := { k0 := 0, inp := I_policy_twice, body := fun v => .need (Sp.twiceL.pre v.1) (.ret ⟨O_policy_twice, ((Sp.twiceL v.1), ())⟩), ex := 0 }
def an_policy_twice : Ann := [(2, { slots := [(0, .ce (.v (.sl .str))), (5, .ce (.v (.int .i64))), (6, .ce (.v (.int .i64)))], ents := [] })]
def cx_policy_twice : Cx := mkCx [(51, [c_slices_Contains_string_string])]
theorem eq_policy_twice (l : (List Str)) (R : ((p : Pat) × p.V) → Prop) : fnVc (cx_policy_twice) an_policy_twice 0 Tryz.f31 I_policy_twice [O_policy_twice] (l, ()) R = policy_twice.vc (fun y0 => R ⟨O_policy_twice, (y0, ())⟩) l := by kernel_rfl
theorem fs_policy_twice : CtrsOk Tryz.prog [(51, [c_slices_Contains_string_string])] gl := ⟨ctr1 (ctr_slices_Contains_string_string), trivial⟩
theorem vc_policy_twice (H : Nat → Entry) (v : c_policy_twice.inp.V) (r : (p : Pat) × p.V) (h : (c_policy_twice.body v).Sel H r) : fnVc (cx_policy_twice) an_policy_twice 0 Tryz.f31 c_policy_twice.inp [O_policy_twice] v (fun r' => r' = r) := by
  obtain ⟨l, ⟨⟩⟩ := v
  obtain ⟨h, rfl⟩ := h
  exact Eq.mpr (eq_policy_twice l _) (policy_twice.ok _ l h rfl)
theorem ctr_policy_twice : CtrOk Tryz.prog 31 c_policy_twice gl := ⟨⟨_, Tryz.func31, by kernel_rfl, by kernel_rfl⟩, fun H v r h => mk_ok _ (fs_policy_twice) (an := an_policy_twice) (outs := [O_policy_twice]) Tryz.func31 (by decide) (vc_policy_twice H v r h)⟩
abbrev I_policy_right : Pat := { slots := [(0, .ag (.pair .str (.pair (.int .i64) (.pair (.sl .str) (.sl .str)))))], ents := [] }
abbrev O_policy_right : Pat := { slots := [(0, .ce (.v .bool))], ents := [] }
def c_policy_right : Ctr := { k0 := 0, inp := I_policy_right, body := fun v => .need (Sp.ruleOkk v.1) (.ret ⟨O_policy_right, ((Sp.rightR v.1), ())⟩), ex := 0 }
def an_policy_right : Ann := []
def cx_policy_right : Cx := mkCx [(32, [c_policy_Rule_names]), (34, [c_Contains_nn]), (54, [c_policy_right_1]), (55, [c_pen_Name]), (56, [c_policy_gone])]
theorem eq_policy_right (r : (Str × (Int × ((List Str) × (List Str))))) (R : ((p : Pat) × p.V) → Prop) : fnVc (cx_policy_right) an_policy_right 0 Tryz.f38 I_policy_right [O_policy_right] (r, ()) R = policy_right.vc (fun y0 => R ⟨O_policy_right, (y0, ())⟩) r := by kernel_rfl
theorem fs_policy_right : CtrsOk Tryz.prog [(32, [c_policy_Rule_names]), (34, [c_Contains_nn]), (54, [c_policy_right_1]), (55, [c_pen_Name]), (56, [c_policy_gone])] gl := ⟨ctr1 (ctr_policy_Rule_names), ctr1 (ctr_Contains_nn), ctr1 (ctr_policy_right_1), ctr1 (ctr_pen_Name), ctr1 (ctr_policy_gone), trivial⟩
theorem vc_policy_right (H : Nat → Entry) (v : c_policy_right.inp.V) (r : (p : Pat) × p.V) (h : (c_policy_right.body v).Sel H r) : fnVc (cx_policy_right) an_policy_right 0 Tryz.f38 c_policy_right.inp [O_policy_right] v (fun r' => r' = r) := by
  obtain ⟨r, ⟨⟩⟩ := v
  obtain ⟨h, rfl⟩ := h
  exact Eq.mpr (eq_policy_right r _) (policy_right.ok _ r h rfl)
theorem ctr_policy_right : CtrOk Tryz.prog 38 c_policy_right gl := ⟨⟨_, Tryz.func38, by kernel_rfl, by kernel_rfl⟩, fun H v r h => mk_ok _ (fs_policy_right) (an := an_policy_right) (outs := [O_policy_right]) Tryz.func38 (by decide) (vc_policy_right H v r h)⟩
abbrev I_policy_formed_3 : Pat := { slots := [(0, .ag (.pair .str (.pair (.int .i64) (.pair (.sl .str) (.sl .str)))))], ents := [] }
abbrev O_policy_formed_3 : Pat := { slots := [(0, .ce (.v .bool))], ents := [] }
def c_policy_formed_3 : Ctr := { k0 := 0, inp := I_policy_formed_3, body := fun v => .need (Sp.ruleOkk v.1) (.ret ⟨O_policy_formed_3, ((Sp.notRight v.1), ())⟩), ex := 0 }
def an_policy_formed_3 : Ann := []
def cx_policy_formed_3 : Cx := mkCx [(38, [c_policy_right])]
theorem eq_policy_formed_3 (r : (Str × (Int × ((List Str) × (List Str))))) (R : ((p : Pat) × p.V) → Prop) : fnVc (cx_policy_formed_3) an_policy_formed_3 0 Tryz.f37 I_policy_formed_3 [O_policy_formed_3] (r, ()) R = policy_formed_3.vc (fun y0 => R ⟨O_policy_formed_3, (y0, ())⟩) r := by kernel_rfl
theorem fs_policy_formed_3 : CtrsOk Tryz.prog [(38, [c_policy_right])] gl := ⟨ctr1 (ctr_policy_right), trivial⟩
theorem vc_policy_formed_3 (H : Nat → Entry) (v : c_policy_formed_3.inp.V) (r : (p : Pat) × p.V) (h : (c_policy_formed_3.body v).Sel H r) : fnVc (cx_policy_formed_3) an_policy_formed_3 0 Tryz.f37 c_policy_formed_3.inp [O_policy_formed_3] v (fun r' => r' = r) := by
  obtain ⟨r, ⟨⟩⟩ := v
  obtain ⟨h, rfl⟩ := h
  exact Eq.mpr (eq_policy_formed_3 r _) (policy_formed_3.ok _ r h rfl)
theorem ctr_policy_formed_3 : CtrOk Tryz.prog 37 c_policy_formed_3 gl := ⟨⟨_, Tryz.func37, by kernel_rfl, by kernel_rfl⟩, fun H v r h => mk_ok _ (fs_policy_formed_3) (an := an_policy_formed_3) (outs := [O_policy_formed_3]) Tryz.func37 (by decide) (vc_policy_formed_3 H v r h)⟩
abbrev I_Index_nr : Pat := { slots := [(0, .ce (.v (.sl (.pair .str (.pair (.int .i64) (.pair (.sl .str) (.sl .str))))))), (1, .ce (.fn 37 [] []))], ents := [] }
abbrev O_Index_nr : Pat := { slots := [(0, .ce (.v (.int .i64)))], ents := [] }
def c_Index_nr : Ctr := { k0 := 0, inp := I_Index_nr, body := fun v => .need (Sp.rulesOk v.1) (.ret ⟨O_Index_nr, (Sp.idxNR v.1, ())⟩), ex := 0 }
def an_Index_nr : Ann := [(2, { slots := [(0, .ce (.v (.sl (.pair .str (.pair (.int .i64) (.pair (.sl .str) (.sl .str))))))), (1, .ce (.fn 37 [] [])), (7, .ce (.v (.int .i64))), (8, .ce (.v (.int .i64)))], ents := [] })]
def cx_Index_nr : Cx := mkCx [(37, [c_policy_formed_3])]
theorem eq_Index_nr (l : (List (Str × (Int × ((List Str) × (List Str)))))) (R : ((p : Pat) × p.V) → Prop) : fnVc (cx_Index_nr) an_Index_nr 0 Tryz.f50 I_Index_nr [O_Index_nr] (l, ()) R = Index_nr.vc (fun y0 => R ⟨O_Index_nr, (y0, ())⟩) l := by kernel_rfl
theorem fs_Index_nr : CtrsOk Tryz.prog [(37, [c_policy_formed_3])] gl := ⟨ctr1 (ctr_policy_formed_3), trivial⟩
theorem vc_Index_nr (H : Nat → Entry) (v : c_Index_nr.inp.V) (r : (p : Pat) × p.V) (h : (c_Index_nr.body v).Sel H r) : fnVc (cx_Index_nr) an_Index_nr 0 Tryz.f50 c_Index_nr.inp [O_Index_nr] v (fun r' => r' = r) := by
  obtain ⟨l, ⟨⟩⟩ := v
  obtain ⟨h, rfl⟩ := h
  exact Eq.mpr (eq_Index_nr l _) (Index_nr.ok _ l h rfl)
theorem ctr_Index_nr : CtrOk Tryz.prog 50 c_Index_nr gl := ⟨⟨_, Tryz.func50, by kernel_rfl, by kernel_rfl⟩, fun H v r h => mk_ok _ (fs_Index_nr) (an := an_Index_nr) (outs := [O_Index_nr]) Tryz.func50 (by decide) (vc_Index_nr H v r h)⟩
abbrev I_Contains_nr : Pat := { slots := [(0, .ce (.v (.sl (.pair .str (.pair (.int .i64) (.pair (.sl .str) (.sl .str))))))), (1, .ce (.fn 37 [] []))], ents := [] }
abbrev O_Contains_nr : Pat := { slots := [(0, .ce (.v .bool))], ents := [] }
def c_Contains_nr : Ctr := { k0 := 0, inp := I_Contains_nr, body := fun v => .need (Sp.rulesOk v.1) (.ret ⟨O_Contains_nr, (Sp.anyNR v.1, ())⟩), ex := 0 }
def an_Contains_nr : Ann := []
def cx_Contains_nr : Cx := mkCx [(50, [c_Index_nr])]
theorem eq_Contains_nr (l : (List (Str × (Int × ((List Str) × (List Str)))))) (R : ((p : Pat) × p.V) → Prop) : fnVc (cx_Contains_nr) an_Contains_nr 0 Tryz.f29 I_Contains_nr [O_Contains_nr] (l, ()) R = Contains_nr.vc (fun y0 => R ⟨O_Contains_nr, (y0, ())⟩) l := by kernel_rfl
theorem fs_Contains_nr : CtrsOk Tryz.prog [(50, [c_Index_nr])] gl := ⟨ctr1 (ctr_Index_nr), trivial⟩
theorem vc_Contains_nr (H : Nat → Entry) (v : c_Contains_nr.inp.V) (r : (p : Pat) × p.V) (h : (c_Contains_nr.body v).Sel H r) : fnVc (cx_Contains_nr) an_Contains_nr 0 Tryz.f29 c_Contains_nr.inp [O_Contains_nr] v (fun r' => r' = r) := by
  obtain ⟨l, ⟨⟩⟩ := v
  obtain ⟨h, rfl⟩ := h
  exact Eq.mpr (eq_Contains_nr l _) (Contains_nr.ok _ l h rfl)
theorem ctr_Contains_nr : CtrOk Tryz.prog 29 c_Contains_nr gl := ⟨⟨_, Tryz.func29, by kernel_rfl, by kernel_rfl⟩, fun H v r h => mk_ok _ (fs_Contains_nr) (an := an_Contains_nr) (outs := [O_Contains_nr]) Tryz.func29 (by decide) (vc_Contains_nr H v r h)⟩
abbrev I_policy_short : Pat := { slots := [(0, .ag (.pair (.sl (.pair .str (.pair (.int .i64) (.pair (.sl .str) (.sl .str))))) (.pair (.sl .str) (.pair (.int .i64) (.int .i64)))))], ents := [] }
abbrev O_policy_short : Pat := { slots := [(0, .ce (.v .bool))], ents := [] }
def c_policy_short : Ctr := { k0 := 0, inp := I_policy_short, body := fun v => .need (Sp.polOkk v.1) (.ret ⟨O_policy_short, ((Sp.shortP v.1), ())⟩), ex := 0 }
def an_policy_short : Ann := []
def cx_policy_short : Cx := mkCx [(29, [c_Contains_wide]), (30, [c_policy_short_1])]
theorem eq_policy_short (p : ((List (Str × (Int × ((List Str) × (List Str))))) × ((List Str) × (Int × Int)))) (R : ((p : Pat) × p.V) → Prop) : fnVc (cx_policy_short) an_policy_short 0 Tryz.f17 I_policy_short [O_policy_short] (p, ()) R = policy_short.vc (fun y0 => R ⟨O_policy_short, (y0, ())⟩) p := by kernel_rfl
theorem fs_policy_short : CtrsOk Tryz.prog [(29, [c_Contains_wide]), (30, [c_policy_short_1])] gl := ⟨ctr1 (ctr_Contains_wide), ctr1 (ctr_policy_short_1), trivial⟩
theorem vc_policy_short (H : Nat → Entry) (v : c_policy_short.inp.V) (r : (p : Pat) × p.V) (h : (c_policy_short.body v).Sel H r) : fnVc (cx_policy_short) an_policy_short 0 Tryz.f17 c_policy_short.inp [O_policy_short] v (fun r' => r' = r) := by
  obtain ⟨p, ⟨⟩⟩ := v
  obtain ⟨h, rfl⟩ := h
  exact Eq.mpr (eq_policy_short p _) (policy_short.ok _ p h rfl)
theorem ctr_policy_short : CtrOk Tryz.prog 17 c_policy_short gl := ⟨⟨_, Tryz.func17, by kernel_rfl, by kernel_rfl⟩, fun H v r h => mk_ok _ (fs_policy_short) (an := an_policy_short) (outs := [O_policy_short]) Tryz.func17 (by decide) (vc_policy_short H v r h)⟩
abbrev I_policy_apart : Pat := { slots := [(0, .ag (.pair (.sl (.pair .str (.pair (.int .i64) (.pair (.sl .str) (.sl .str))))) (.pair (.sl .str) (.pair (.int .i64) (.int .i64)))))], ents := [] }
abbrev O_policy_apart : Pat := { slots := [(0, .ce (.v .bool))], ents := [] }
def c_policy_apart : Ctr := { k0 := 0, inp := I_policy_apart, body := fun v => .need (Sp.polOkk v.1) (.ret ⟨O_policy_apart, ((Sp.apartP v.1), ())⟩), ex := 0 }
def an_policy_apart : Ann := [(3, { slots := [(3, .ce (.os 0)), (7, .ce (.v (.sl (.pair .str (.pair (.int .i64) (.pair (.sl .str) (.sl .str))))))), (8, .ce (.v (.int .i64))), (9, .ce (.v (.int .i64)))], ents := [.row 9 .str] })]
def cx_policy_apart : Cx := mkCx [(32, [c_policy_Rule_names]), (31, [c_policy_twice])]
theorem eq_policy_apart (p : ((List (Str × (Int × ((List Str) × (List Str))))) × ((List Str) × (Int × Int)))) (R : ((p : Pat) × p.V) → Prop) : fnVc (cx_policy_apart) an_policy_apart 0 Tryz.f18 I_policy_apart [O_policy_apart] (p, ()) R = policy_apart.vc (fun y0 => R ⟨O_policy_apart, (y0, ())⟩) p := by kernel_rfl
theorem fs_policy_apart : CtrsOk Tryz.prog [(32, [c_policy_Rule_names]), (31, [c_policy_twice])] gl := ⟨ctr1 (ctr_policy_Rule_names), ctr1 (ctr_policy_twice), trivial⟩
theorem vc_policy_apart (H : Nat → Entry) (v : c_policy_apart.inp.V) (r : (p : Pat) × p.V) (h : (c_policy_apart.body v).Sel H r) : fnVc (cx_policy_apart) an_policy_apart 0 Tryz.f18 c_policy_apart.inp [O_policy_apart] v (fun r' => r' = r) := by
  obtain ⟨p, ⟨⟩⟩ := v
  obtain ⟨h, rfl⟩ := h
  exact Eq.mpr (eq_policy_apart p _) (policy_apart.ok _ p h rfl)
theorem ctr_policy_apart : CtrOk Tryz.prog 18 c_policy_apart gl := ⟨⟨_, Tryz.func18, by kernel_rfl, by kernel_rfl⟩, fun H v r h => mk_ok _ (fs_policy_apart) (an := an_policy_apart) (outs := [O_policy_apart]) Tryz.func18 (by decide) (vc_policy_apart H v r h)⟩
abbrev I_policy_formed : Pat := { slots := [(0, .ag (.pair (.sl (.pair .str (.pair (.int .i64) (.pair (.sl .str) (.sl .str))))) (.pair (.sl .str) (.pair (.int .i64) (.int .i64)))))], ents := [] }
abbrev O_policy_formed : Pat := { slots := [(0, .ce (.v .bool))], ents := [] }
def c_policy_formed : Ctr := { k0 := 0, inp := I_policy_formed, body := fun v => .need (Sp.polOkk v.1) (.ret ⟨O_policy_formed, ((Sp.formedP v.1), ())⟩), ex := 0 }
def an_policy_formed : Ann := []
def cx_policy_formed : Cx := mkCx [(33, [c_policy_formed_1]), (34, [c_Contains_odd]), (35, [c_policy_formed_2]), (29, [c_Contains_nr]), (37, [c_policy_formed_3])]
theorem eq_policy_formed (p : ((List (Str × (Int × ((List Str) × (List Str))))) × ((List Str) × (Int × Int)))) (R : ((p : Pat) × p.V) → Prop) : fnVc (cx_policy_formed) an_policy_formed 0 Tryz.f19 I_policy_formed [O_policy_formed] (p, ()) R = policy_formed.vc (fun y0 => R ⟨O_policy_formed, (y0, ())⟩) p := by kernel_rfl
theorem fs_policy_formed : CtrsOk Tryz.prog [(33, [c_policy_formed_1]), (34, [c_Contains_odd]), (35, [c_policy_formed_2]), (29, [c_Contains_nr]), (37, [c_policy_formed_3])] gl := ⟨ctr1 (ctr_policy_formed_1), ctr1 (ctr_Contains_odd), ctr1 (ctr_policy_formed_2), ctr1 (ctr_Contains_nr), ctr1 (ctr_policy_formed_3), trivial⟩
theorem vc_policy_formed (H : Nat → Entry) (v : c_policy_formed.inp.V) (r : (p : Pat) × p.V) (h : (c_policy_formed.body v).Sel H r) : fnVc (cx_policy_formed) an_policy_formed 0 Tryz.f19 c_policy_formed.inp [O_policy_formed] v (fun r' => r' = r) := by
  obtain ⟨p, ⟨⟩⟩ := v
  obtain ⟨h, rfl⟩ := h
  exact Eq.mpr (eq_policy_formed p _) (policy_formed.ok _ p h rfl)
theorem ctr_policy_formed : CtrOk Tryz.prog 19 c_policy_formed gl := ⟨⟨_, Tryz.func19, by kernel_rfl, by kernel_rfl⟩, fun H v r h => mk_ok _ (fs_policy_formed) (an := an_policy_formed) (outs := [O_policy_formed]) Tryz.func19 (by decide) (vc_policy_formed H v r h)⟩
abbrev I_policy_Check : Pat := { slots := [(0, .ag (.pair (.sl (.pair .str (.pair (.int .i64) (.pair (.sl .str) (.sl .str))))) (.pair (.sl .str) (.pair (.int .i64) (.int .i64)))))], ents := [] }
abbrev O_policy_Check : Pat := { slots := [(0, .ce (.v (.int .i64)))], ents := [] }
def c_policy_Check : Ctr := { k0 := 0, inp := I_policy_Check, body := fun v => .need (Sp.polOkk v.1) (.ret ⟨O_policy_Check, ((Sp.checkP v.1), ())⟩), ex := 0 }
def an_policy_Check : Ann := [(2, { slots := [(1, .ce (.ptr 1 0)), (8, .ce (.sb 0 3)), (9, .ce (.v (.int .i64))), (10, .ce (.v (.int .i64)))], ents := [.box 51 [.fn 17 [] [], .v (.int .i64), .fn 18 [] [], .v (.int .i64), .fn 19 [] [], .v (.int .i64)], .box 25 [.v (.sl (.pair .str (.pair (.int .i64) (.pair (.sl .str) (.sl .str))))), .v (.sl .str), .v (.int .i64), .v (.int .i64)]] })]
def cx_policy_Check : Cx := mkCx [(17, [c_policy_short]), (18, [c_policy_apart]), (19, [c_policy_formed])]
theorem eq_policy_Check (p : ((List (Str × (Int × ((List Str) × (List Str))))) × ((List Str) × (Int × Int)))) (R : ((p : Pat) × p.V) → Prop) : fnVc (cx_policy_Check) an_policy_Check 0 Tryz.f7 I_policy_Check [O_policy_Check] (p, ()) R = policy_Check.vc (fun y0 => R ⟨O_policy_Check, (y0, ())⟩) p := by kernel_rfl
theorem fs_policy_Check : CtrsOk Tryz.prog [(17, [c_policy_short]), (18, [c_policy_apart]), (19, [c_policy_formed])] gl := ⟨ctr1 (ctr_policy_short), ctr1 (ctr_policy_apart), ctr1 (ctr_policy_formed), trivial⟩
theorem vc_policy_Check (H : Nat → Entry) (v : c_policy_Check.inp.V) (r : (p : Pat) × p.V) (h : (c_policy_Check.body v).Sel H r) : fnVc (cx_policy_Check) an_policy_Check 0 Tryz.f7 c_policy_Check.inp [O_policy_Check] v (fun r' => r' = r) := by
  obtain ⟨p, ⟨⟩⟩ := v
  obtain ⟨h, rfl⟩ := h
  exact Eq.mpr (eq_policy_Check p _) (policy_Check.ok _ p h rfl)
theorem ctr_policy_Check : CtrOk Tryz.prog 7 c_policy_Check gl := ⟨⟨_, Tryz.func7, by kernel_rfl, by kernel_rfl⟩, fun H v r h => mk_ok _ (fs_policy_Check) (an := an_policy_Check) (outs := [O_policy_Check]) Tryz.func7 (by decide) (vc_policy_Check H v r h)⟩
abbrev I_policy_Plain : Pat := { slots := [], ents := [] }
abbrev O_policy_Plain : Pat := { slots := [(0, .ag (.pair (.sl (.pair .str (.pair (.int .i64) (.pair (.sl .str) (.sl .str))))) (.pair (.sl .str) (.pair (.int .i64) (.int .i64)))))], ents := [] }
def c_policy_Plain : Ctr := { k0 := 0, inp := I_policy_Plain, body := fun v => .ret ⟨O_policy_Plain, ((Sp.plainP), ())⟩, ex := 0 }
def an_policy_Plain : Ann := [(3, { slots := [(0, .ce (.ptr 0 0)), (1, .ce (.os 1)), (4, .ce (.os 2)), (5, .ce (.v (.int .i64))), (6, .ce (.v (.int .i64)))], ents := [.box 25 [.v (.sl (.pair .str (.pair (.int .i64) (.pair (.sl .str) (.sl .str))))), .v (.sl .str), .v (.int .i64), .v (.int .i64)], .row 44 (.pair .str (.pair (.int .i64) (.pair (.sl .str) (.sl .str)))), .row 9 .str] })]
def cx_policy_Plain : Cx := mkCx []
theorem eq_policy_Plain  (R : ((p : Pat) × p.V) → Prop) : fnVc (cx_policy_Plain) an_policy_Plain 0 Tryz.f20 I_policy_Plain [O_policy_Plain] (()) R = policy_Plain.vc (fun y0 => R ⟨O_policy_Plain, (y0, ())⟩)  := by kernel_rfl
theorem fs_policy_Plain : CtrsOk Tryz.prog [] gl := trivial
theorem vc_policy_Plain (H : Nat → Entry) (v : c_policy_Plain.inp.V) (r : (p : Pat) × p.V) (h : (c_policy_Plain.body v).Sel H r) : fnVc (cx_policy_Plain) an_policy_Plain 0 Tryz.f20 c_policy_Plain.inp [O_policy_Plain] v (fun r' => r' = r) := by
  obtain ⟨⟩ := v
  obtain rfl := h
  exact Eq.mpr (eq_policy_Plain  _) (policy_Plain.ok _   rfl)
theorem ctr_policy_Plain : CtrOk Tryz.prog 20 c_policy_Plain gl := ⟨⟨_, Tryz.func20, by kernel_rfl, by kernel_rfl⟩, fun H v r h => mk_ok _ (fs_policy_Plain) (an := an_policy_Plain) (outs := [O_policy_Plain]) Tryz.func20 (by decide) (vc_policy_Plain H v r h)⟩
abbrev I_policy_Policy_rule_1 : Pat := { slots := [(0, .ag (.pair .str (.pair (.int .i64) (.pair (.sl .str) (.sl .str))))), (1, .ce (.ptr 0 0))], ents := [.box 9 [.v .str]] }
abbrev O_policy_Policy_rule_1 : Pat := { slots := [(0, .ce (.v .bool))], ents := [.box 9 [.v .str]] }
def c_policy_Policy_rule_1 : Ctr := { k0 := 1, inp := I_policy_Policy_rule_1, body := fun v => .ret ⟨O_policy_Policy_rule_1, (Sp.hasN v.1 v.2.1, v.2.1, ())⟩, ex := 0 }
def an_policy_Policy_rule_1 : Ann := []
def cx_policy_Policy_rule_1 : Cx := mkCx []
theorem eq_policy_Policy_rule_1 (r : (Str × (Int × ((List Str) × (List Str))))) (name : Str) (R : ((p : Pat) × p.V) → Prop) : fnVc (cx_policy_Policy_rule_1) an_policy_Policy_rule_1 1 Tryz.f82 I_policy_Policy_rule_1 [O_policy_Policy_rule_1] (r, name, ()) R = policy_Policy_rule_1.vc (fun y0 y1 => R ⟨O_policy_Policy_rule_1, (y0, y1, ())⟩) r name := by kernel_rfl
theorem fs_policy_Policy_rule_1 : CtrsOk Tryz.prog [] gl := trivial
theorem vc_policy_Policy_rule_1 (H : Nat → Entry) (v : c_policy_Policy_rule_1.inp.V) (r : (p : Pat) × p.V) (h : (c_policy_Policy_rule_1.body v).Sel H r) : fnVc (cx_policy_Policy_rule_1) an_policy_Policy_rule_1 1 Tryz.f82 c_policy_Policy_rule_1.inp [O_policy_Policy_rule_1] v (fun r' => r' = r) := by
  obtain ⟨r, name, ⟨⟩⟩ := v
  obtain rfl := h
  exact Eq.mpr (eq_policy_Policy_rule_1 r name _) (policy_Policy_rule_1.ok _ r name  rfl)
theorem ctr_policy_Policy_rule_1 : CtrOk Tryz.prog 82 c_policy_Policy_rule_1 gl := ⟨⟨_, Tryz.func82, by kernel_rfl, by kernel_rfl⟩, fun H v r h => mk_ok _ (fs_policy_Policy_rule_1) (an := an_policy_Policy_rule_1) (outs := [O_policy_Policy_rule_1]) Tryz.func82 (by decide) (vc_policy_Policy_rule_1 H v r h)⟩
abbrev I_Index_rule : Pat := { slots := [(0, .ce (.v (.sl (.pair .str (.pair (.int .i64) (.pair (.sl .str) (.sl .str))))))), (1, .ce (.fn 82 [] [0]))], ents := [.box 9 [.v .str]] }
abbrev O_Index_rule : Pat := { slots := [(0, .ce (.v (.int .i64)))], ents := [.box 9 [.v .str]] }
def c_Index_rule : Ctr := { k0 := 1, inp := I_Index_rule, body := fun v => .need (Sp.rules.pre v.1) (.ret ⟨O_Index_rule, (Sp.idxR v.1 v.2.1, v.2.1, ())⟩), ex := 0 }
def an_Index_rule : Ann := [(2, { slots := [(0, .ce (.v (.sl (.pair .str (.pair (.int .i64) (.pair (.sl .str) (.sl .str))))))), (1, .ce (.fn 82 [] [0])), (7, .ce (.v (.int .i64))), (8, .ce (.v (.int .i64)))], ents := [.box 9 [.v .str]] })]
def cx_Index_rule : Cx := mkCx [(82, [c_policy_Policy_rule_1])]
theorem eq_Index_rule (l : (List (Str × (Int × ((List Str) × (List Str)))))) (name : Str) (R : ((p : Pat) × p.V) → Prop) : fnVc (cx_Index_rule) an_Index_rule 1 Tryz.f50 I_Index_rule [O_Index_rule] (l, name, ()) R = Index_rule.vc (fun y0 y1 => R ⟨O_Index_rule, (y0, y1, ())⟩) l name := by kernel_rfl
theorem fs_Index_rule : CtrsOk Tryz.prog [(82, [c_policy_Policy_rule_1])] gl := ⟨ctr1 (ctr_policy_Policy_rule_1), trivial⟩
theorem vc_Index_rule (H : Nat → Entry) (v : c_Index_rule.inp.V) (r : (p : Pat) × p.V) (h : (c_Index_rule.body v).Sel H r) : fnVc (cx_Index_rule) an_Index_rule 1 Tryz.f50 c_Index_rule.inp [O_Index_rule] v (fun r' => r' = r) := by
  obtain ⟨l, name, ⟨⟩⟩ := v
  obtain ⟨h, rfl⟩ := h
  exact Eq.mpr (eq_Index_rule l name _) (Index_rule.ok _ l name h rfl)
theorem ctr_Index_rule : CtrOk Tryz.prog 50 c_Index_rule gl := ⟨⟨_, Tryz.func50, by kernel_rfl, by kernel_rfl⟩, fun H v r h => mk_ok _ (fs_Index_rule) (an := an_Index_rule) (outs := [O_Index_rule]) Tryz.func50 (by decide) (vc_Index_rule H v r h)⟩
abbrev I_policy_Policy_rule : Pat := { slots := [(0, .ag (.pair (.sl (.pair .str (.pair (.int .i64) (.pair (.sl .str) (.sl .str))))) (.pair (.sl .str) (.pair (.int .i64) (.int .i64))))), (1, .ce (.v .str))], ents := [] }
abbrev O_policy_Policy_rule : Pat := { slots := [(0, .ag (.pair .str (.pair (.int .i64) (.pair (.sl .str) (.sl .str)))))], ents := [] }
def c_policy_Policy_rule : Ctr := { k0 := 0, inp := I_policy_Policy_rule, body := fun v => .need (Sp.ruleP.pre v.1 v.2.1) (.ret ⟨O_policy_Policy_rule, ((Sp.ruleP v.1 v.2.1), ())⟩), ex := 0 }
def an_policy_Policy_rule : Ann := []
def cx_policy_Policy_rule : Cx := mkCx [(50, [c_Index_rule])]
theorem eq_policy_Policy_rule (p : ((List (Str × (Int × ((List Str) × (List Str))))) × ((List Str) × (Int × Int)))) (name : Str) (R : ((p : Pat) × p.V) → Prop) : fnVc (cx_policy_Policy_rule) an_policy_Policy_rule 0 Tryz.f75 I_policy_Policy_rule [O_policy_Policy_rule] (p, name, ()) R = policy_Policy_rule.vc (fun y0 => R ⟨O_policy_Policy_rule, (y0, ())⟩) p name := by kernel_rfl
theorem fs_policy_Policy_rule : CtrsOk Tryz.prog [(50, [c_Index_rule])] gl := ⟨ctr1 (ctr_Index_rule), trivial⟩
theorem vc_policy_Policy_rule (H : Nat → Entry) (v : c_policy_Policy_rule.inp.V) (r : (p : Pat) × p.V) (h : (c_policy_Policy_rule.body v).Sel H r) : fnVc (cx_policy_Policy_rule) an_policy_Policy_rule 0 Tryz.f75 c_policy_Policy_rule.inp [O_policy_Policy_rule] v (fun r' => r' = r) := by
  obtain ⟨p, name, ⟨⟩⟩ := v
  obtain ⟨h, rfl⟩ := h
  exact Eq.mpr (eq_policy_Policy_rule p name _) (policy_Policy_rule.ok _ p name h rfl)
theorem ctr_policy_Policy_rule : CtrOk Tryz.prog 75 c_policy_Policy_rule gl := ⟨⟨_, Tryz.func75, by kernel_rfl, by kernel_rfl⟩, fun H v r h => mk_ok _ (fs_policy_Policy_rule) (an := an_policy_Policy_rule) (outs := [O_policy_Policy_rule]) Tryz.func75 (by decide) (vc_policy_Policy_rule H v r h)⟩
abbrev I_policy_Policy_act : Pat := { slots := [(0, .ag (.pair (.sl (.pair .str (.pair (.int .i64) (.pair (.sl .str) (.sl .str))))) (.pair (.sl .str) (.pair (.int .i64) (.int .i64))))), (1, .ce (.v (.int .i64))), (2, .ce (.v .str))], ents := [] }
abbrev O_policy_Policy_act : Pat := { slots := [(0, .ce (.v (.int .i64)))], ents := [] }
def c_policy_Policy_act : Ctr := { k0 := 0, inp := I_policy_Policy_act, body := fun v => .need (Sp.actP.pre v.1 v.2.1 v.2.2.1) (.ret ⟨O_policy_Policy_act, ((Sp.actP v.1 v.2.1 v.2.2.1), ())⟩), ex := 0 }
def an_policy_Policy_act : Ann := []
def cx_policy_Policy_act : Cx := mkCx [(75, [c_policy_Policy_rule])]
theorem eq_policy_Policy_act (p : ((List (Str × (Int × ((List Str) × (List Str))))) × ((List Str) × (Int × Int)))) (space : Int) (name : Str) (R : ((p : Pat) × p.V) → Prop) : fnVc (cx_policy_Policy_act) an_policy_Policy_act 0 Tryz.f61 I_policy_Policy_act [O_policy_Policy_act] (p, space, name, ()) R = policy_Policy_act.vc (fun y0 => R ⟨O_policy_Policy_act, (y0, ())⟩) p space name := by kernel_rfl
theorem fs_policy_Policy_act : CtrsOk Tryz.prog [(75, [c_policy_Policy_rule])] gl := ⟨ctr1 (ctr_policy_Policy_rule), trivial⟩
theorem vc_policy_Policy_act (H : Nat → Entry) (v : c_policy_Policy_act.inp.V) (r : (p : Pat) × p.V) (h : (c_policy_Policy_act.body v).Sel H r) : fnVc (cx_policy_Policy_act) an_policy_Policy_act 0 Tryz.f61 c_policy_Policy_act.inp [O_policy_Policy_act] v (fun r' => r' = r) := by
  obtain ⟨p, space, name, ⟨⟩⟩ := v
  obtain ⟨h, rfl⟩ := h
  exact Eq.mpr (eq_policy_Policy_act p space name _) (policy_Policy_act.ok _ p space name h rfl)
theorem ctr_policy_Policy_act : CtrOk Tryz.prog 61 c_policy_Policy_act gl := ⟨⟨_, Tryz.func61, by kernel_rfl, by kernel_rfl⟩, fun H v r h => mk_ok _ (fs_policy_Policy_act) (an := an_policy_Policy_act) (outs := [O_policy_Policy_act]) Tryz.func61 (by decide) (vc_policy_Policy_act H v r h)⟩
abbrev I_policy_Policy_stays : Pat := { slots := [(0, .ag (.pair (.sl (.pair .str (.pair (.int .i64) (.pair (.sl .str) (.sl .str))))) (.pair (.sl .str) (.pair (.int .i64) (.int .i64))))), (1, .ce (.v .str)), (2, .ag (.pair .str .str))], ents := [] }
abbrev O_policy_Policy_stays : Pat := { slots := [(0, .ce (.v .bool))], ents := [] }
def c_policy_Policy_stays : Ctr := { k0 := 0, inp := I_policy_Policy_stays, body := fun v => .need (Sp.staysP.pre v.1 v.2.1 v.2.2.1) (.ret ⟨O_policy_Policy_stays, ((Sp.staysP v.1 v.2.1 v.2.2.1), ())⟩), ex := 0 }
def an_policy_Policy_stays : Ann := []
def cx_policy_Policy_stays : Cx := mkCx [(75, [c_policy_Policy_rule]), (51, [c_slices_Contains_string_string]), (76, [c_urls_Safe])]
theorem eq_policy_Policy_stays (p : ((List (Str × (Int × ((List Str) × (List Str))))) × ((List Str) × (Int × Int)))) (name : Str) (a : (Str × Str)) (R : ((p : Pat) × p.V) → Prop) : fnVc (cx_policy_Policy_stays) an_policy_Policy_stays 0 Tryz.f60 I_policy_Policy_stays [O_policy_Policy_stays] (p, name, a, ()) R = policy_Policy_stays.vc (fun y0 => R ⟨O_policy_Policy_stays, (y0, ())⟩) p name a := by kernel_rfl
theorem fs_policy_Policy_stays : CtrsOk Tryz.prog [(75, [c_policy_Policy_rule]), (51, [c_slices_Contains_string_string]), (76, [c_urls_Safe])] gl := ⟨ctr1 (ctr_policy_Policy_rule), ctr1 (ctr_slices_Contains_string_string), ctr1 (ctr_urls_Safe), trivial⟩
theorem vc_policy_Policy_stays (H : Nat → Entry) (v : c_policy_Policy_stays.inp.V) (r : (p : Pat) × p.V) (h : (c_policy_Policy_stays.body v).Sel H r) : fnVc (cx_policy_Policy_stays) an_policy_Policy_stays 0 Tryz.f60 c_policy_Policy_stays.inp [O_policy_Policy_stays] v (fun r' => r' = r) := by
  obtain ⟨p, name, a, ⟨⟩⟩ := v
  obtain ⟨h, rfl⟩ := h
  exact Eq.mpr (eq_policy_Policy_stays p name a _) (policy_Policy_stays.ok _ p name a h rfl)
theorem ctr_policy_Policy_stays : CtrOk Tryz.prog 60 c_policy_Policy_stays gl := ⟨⟨_, Tryz.func60, by kernel_rfl, by kernel_rfl⟩, fun H v r h => mk_ok _ (fs_policy_Policy_stays) (an := an_policy_Policy_stays) (outs := [O_policy_Policy_stays]) Tryz.func60 (by decide) (vc_policy_Policy_stays H v r h)⟩
abbrev I_policy_Act : Pat := { slots := [(0, .ag (.pair (.sl (.pair .str (.pair (.int .i64) (.pair (.sl .str) (.sl .str))))) (.pair (.sl .str) (.pair (.int .i64) (.int .i64))))), (1, .ce (.v (.int .i64))), (2, .ce (.v .str))], ents := [] }
abbrev O_policy_Act : Pat := { slots := [(0, .ce (.v (.int .i64)))], ents := [] }
def c_policy_Act : Ctr := { k0 := 0, inp := I_policy_Act, body := fun v => .need (Sp.actC.pre v.1 v.2.1 v.2.2.1) (.ret ⟨O_policy_Act, ((Sp.actC v.1 v.2.1 v.2.2.1), ())⟩), ex := 0 }
def an_policy_Act : Ann := []
def cx_policy_Act : Cx := mkCx [(7, [c_policy_Check]), (61, [c_policy_Policy_act])]
theorem eq_policy_Act (p : ((List (Str × (Int × ((List Str) × (List Str))))) × ((List Str) × (Int × Int)))) (space : Int) (name : Str) (R : ((p : Pat) × p.V) → Prop) : fnVc (cx_policy_Act) an_policy_Act 0 Tryz.f79 I_policy_Act [O_policy_Act] (p, space, name, ()) R = policy_Act.vc (fun y0 => R ⟨O_policy_Act, (y0, ())⟩) p space name := by kernel_rfl
theorem fs_policy_Act : CtrsOk Tryz.prog [(7, [c_policy_Check]), (61, [c_policy_Policy_act])] gl := ⟨ctr1 (ctr_policy_Check), ctr1 (ctr_policy_Policy_act), trivial⟩
theorem vc_policy_Act (H : Nat → Entry) (v : c_policy_Act.inp.V) (r : (p : Pat) × p.V) (h : (c_policy_Act.body v).Sel H r) : fnVc (cx_policy_Act) an_policy_Act 0 Tryz.f79 c_policy_Act.inp [O_policy_Act] v (fun r' => r' = r) := by
  obtain ⟨p, space, name, ⟨⟩⟩ := v
  obtain ⟨h, rfl⟩ := h
  exact Eq.mpr (eq_policy_Act p space name _) (policy_Act.ok _ p space name h rfl)
theorem ctr_policy_Act : CtrOk Tryz.prog 79 c_policy_Act gl := ⟨⟨_, Tryz.func79, by kernel_rfl, by kernel_rfl⟩, fun H v r h => mk_ok _ (fs_policy_Act) (an := an_policy_Act) (outs := [O_policy_Act]) Tryz.func79 (by decide) (vc_policy_Act H v r h)⟩
abbrev I_policy_Stays : Pat := { slots := [(0, .ag (.pair (.sl (.pair .str (.pair (.int .i64) (.pair (.sl .str) (.sl .str))))) (.pair (.sl .str) (.pair (.int .i64) (.int .i64))))), (1, .ce (.v .str)), (2, .ag (.pair .str .str))], ents := [] }
abbrev O_policy_Stays : Pat := { slots := [(0, .ce (.v .bool))], ents := [] }
def c_policy_Stays : Ctr := { k0 := 0, inp := I_policy_Stays, body := fun v => .need (Sp.staysC.pre v.1 v.2.1 v.2.2.1) (.ret ⟨O_policy_Stays, ((Sp.staysC v.1 v.2.1 v.2.2.1), ())⟩), ex := 0 }
def an_policy_Stays : Ann := []
def cx_policy_Stays : Cx := mkCx [(7, [c_policy_Check]), (60, [c_policy_Policy_stays])]
theorem eq_policy_Stays (p : ((List (Str × (Int × ((List Str) × (List Str))))) × ((List Str) × (Int × Int)))) (name : Str) (a : (Str × Str)) (R : ((p : Pat) × p.V) → Prop) : fnVc (cx_policy_Stays) an_policy_Stays 0 Tryz.f88 I_policy_Stays [O_policy_Stays] (p, name, a, ()) R = policy_Stays.vc (fun y0 => R ⟨O_policy_Stays, (y0, ())⟩) p name a := by kernel_rfl
theorem fs_policy_Stays : CtrsOk Tryz.prog [(7, [c_policy_Check]), (60, [c_policy_Policy_stays])] gl := ⟨ctr1 (ctr_policy_Check), ctr1 (ctr_policy_Policy_stays), trivial⟩
theorem vc_policy_Stays (H : Nat → Entry) (v : c_policy_Stays.inp.V) (r : (p : Pat) × p.V) (h : (c_policy_Stays.body v).Sel H r) : fnVc (cx_policy_Stays) an_policy_Stays 0 Tryz.f88 c_policy_Stays.inp [O_policy_Stays] v (fun r' => r' = r) := by
  obtain ⟨p, name, a, ⟨⟩⟩ := v
  obtain ⟨h, rfl⟩ := h
  exact Eq.mpr (eq_policy_Stays p name a _) (policy_Stays.ok _ p name a h rfl)
theorem ctr_policy_Stays : CtrOk Tryz.prog 88 c_policy_Stays gl := ⟨⟨_, Tryz.func88, by kernel_rfl, by kernel_rfl⟩, fun H v r h => mk_ok _ (fs_policy_Stays) (an := an_policy_Stays) (outs := [O_policy_Stays]) Tryz.func88 (by decide) (vc_policy_Stays H v r h)⟩
abbrev I_policy_Policy_allows_1 : Pat := { slots := [(0, .ag (.pair .str .str)), (1, .ce (.ptr 0 0)), (2, .ce (.ptr 1 0))], ents := [.box 25 [.v (.sl (.pair .str (.pair (.int .i64) (.pair (.sl .str) (.sl .str))))), .v (.sl .str), .v (.int .i64), .v (.int .i64)], .box 55 [.v (.int .i64), .v (.int .i64), .v .str, .v (.sl (.pair .str .str)), .v .str, .v (.sl .node)]] }
abbrev O_policy_Policy_allows_1 : Pat := { slots := [(0, .ce (.v .bool))], ents := [.box 25 [.v (.sl (.pair .str (.pair (.int .i64) (.pair (.sl .str) (.sl .str))))), .v (.sl .str), .v (.int .i64), .v (.int .i64)], .box 55 [.v (.int .i64), .v (.int .i64), .v .str, .v (.sl (.pair .str .str)), .v .str, .v (.sl .node)]] }
def c_policy_Policy_allows_1 : Ctr := { k0 := 2, inp := I_policy_Policy_allows_1, body := fun v => .need (Sp.staysP.pre (v.2.1, v.2.2.1, v.2.2.2.1, v.2.2.2.2.1) (Vi.Node.mk v.2.2.2.2.2.1 v.2.2.2.2.2.2.1 v.2.2.2.2.2.2.2.1 v.2.2.2.2.2.2.2.2.1 v.2.2.2.2.2.2.2.2.2.1 v.2.2.2.2.2.2.2.2.2.2.1).name v.1) (.ret ⟨O_policy_Policy_allows_1, (Sp.notStays v.1 (v.2.1, v.2.2.1, v.2.2.2.1, v.2.2.2.2.1) (Vi.Node.mk v.2.2.2.2.2.1 v.2.2.2.2.2.2.1 v.2.2.2.2.2.2.2.1 v.2.2.2.2.2.2.2.2.1 v.2.2.2.2.2.2.2.2.2.1 v.2.2.2.2.2.2.2.2.2.2.1), v.2.1, v.2.2.1, v.2.2.2.1, v.2.2.2.2.1, v.2.2.2.2.2.1, v.2.2.2.2.2.2.1, v.2.2.2.2.2.2.2.1, v.2.2.2.2.2.2.2.2.1, v.2.2.2.2.2.2.2.2.2.1, v.2.2.2.2.2.2.2.2.2.2.1, ())⟩), ex := 0 }
def an_policy_Policy_allows_1 : Ann := []
def cx_policy_Policy_allows_1 : Cx := mkCx [(60, [c_policy_Policy_stays])]
theorem eq_policy_Policy_allows_1 (a : (Str × Str)) (rules : (List (Str × (Int × ((List Str) × (List Str)))))) (schemes : (List Str)) (others : Int) (strange : Int) (kind : Int) (space : Int) (nname : Str) (attrs : (List (Str × Str))) (text : Str) (kids : (List Vi.Node)) (R : ((p : Pat) × p.V) → Prop) : fnVc (cx_policy_Policy_allows_1) an_policy_Policy_allows_1 2 Tryz.f59 I_policy_Policy_allows_1 [O_policy_Policy_allows_1] (a, rules, schemes, others, strange, kind, space, nname, attrs, text, kids, ()) R = policy_Policy_allows_1.vc (fun y0 y1 y2 y3 y4 y5 y6 y7 y8 y9 y10 => R ⟨O_policy_Policy_allows_1, (y0, y1, y2, y3, y4, y5, y6, y7, y8, y9, y10, ())⟩) a rules schemes others strange kind space nname attrs text kids := by kernel_rfl
theorem fs_policy_Policy_allows_1 : CtrsOk Tryz.prog [(60, [c_policy_Policy_stays])] gl := ⟨ctr1 (ctr_policy_Policy_stays), trivial⟩
theorem vc_policy_Policy_allows_1 (H : Nat → Entry) (v : c_policy_Policy_allows_1.inp.V) (r : (p : Pat) × p.V) (h : (c_policy_Policy_allows_1.body v).Sel H r) : fnVc (cx_policy_Policy_allows_1) an_policy_Policy_allows_1 2 Tryz.f59 c_policy_Policy_allows_1.inp [O_policy_Policy_allows_1] v (fun r' => r' = r) := by
  obtain ⟨a, rules, schemes, others, strange, kind, space, nname, attrs, text, kids, ⟨⟩⟩ := v
  obtain ⟨h, rfl⟩ := h
  exact Eq.mpr (eq_policy_Policy_allows_1 a rules schemes others strange kind space nname attrs text kids _) (policy_Policy_allows_1.ok _ a rules schemes others strange kind space nname attrs text kids h rfl)
theorem ctr_policy_Policy_allows_1 : CtrOk Tryz.prog 59 c_policy_Policy_allows_1 gl := ⟨⟨_, Tryz.func59, by kernel_rfl, by kernel_rfl⟩, fun H v r h => mk_ok _ (fs_policy_Policy_allows_1) (an := an_policy_Policy_allows_1) (outs := [O_policy_Policy_allows_1]) Tryz.func59 (by decide) (vc_policy_Policy_allows_1 H v r h)⟩
abbrev I_Index_attr : Pat := { slots := [(0, .ce (.v (.sl (.pair .str .str)))), (1, .ce (.fn 59 [] [0, 1]))], ents := [.box 25 [.v (.sl (.pair .str (.pair (.int .i64) (.pair (.sl .str) (.sl .str))))), .v (.sl .str), .v (.int .i64), .v (.int .i64)], .box 55 [.v (.int .i64), .v (.int .i64), .v .str, .v (.sl (.pair .str .str)), .v .str, .v (.sl .node)]] }
abbrev O_Index_attr : Pat := { slots := [(0, .ce (.v (.int .i64)))], ents := [.box 25 [.v (.sl (.pair .str (.pair (.int .i64) (.pair (.sl .str) (.sl .str))))), .v (.sl .str), .v (.int .i64), .v (.int .i64)], .box 55 [.v (.int .i64), .v (.int .i64), .v .str, .v (.sl (.pair .str .str)), .v .str, .v (.sl .node)]] }
def c_Index_attr : Ctr := { k0 := 2, inp := I_Index_attr, body := fun v => .need (Sp.polOk (v.2.1, v.2.2.1, v.2.2.2.1, v.2.2.2.2.1) ∧ Sp.attrsOk v.1) (.ret ⟨O_Index_attr, (Sp.idxAt v.1 (v.2.1, v.2.2.1, v.2.2.2.1, v.2.2.2.2.1) (Vi.Node.mk v.2.2.2.2.2.1 v.2.2.2.2.2.2.1 v.2.2.2.2.2.2.2.1 v.2.2.2.2.2.2.2.2.1 v.2.2.2.2.2.2.2.2.2.1 v.2.2.2.2.2.2.2.2.2.2.1), v.2.1, v.2.2.1, v.2.2.2.1, v.2.2.2.2.1, v.2.2.2.2.2.1, v.2.2.2.2.2.2.1, v.2.2.2.2.2.2.2.1, v.2.2.2.2.2.2.2.2.1, v.2.2.2.2.2.2.2.2.2.1, v.2.2.2.2.2.2.2.2.2.2.1, ())⟩), ex := 0 }
def an_Index_attr : Ann := [(2, { slots := [(0, .ce (.v (.sl (.pair .str .str)))), (1, .ce (.fn 59 [] [0, 1])), (7, .ce (.v (.int .i64))), (8, .ce (.v (.int .i64)))], ents := [.box 25 [.v (.sl (.pair .str (.pair (.int .i64) (.pair (.sl .str) (.sl .str))))), .v (.sl .str), .v (.int .i64), .v (.int .i64)], .box 55 [.v (.int .i64), .v (.int .i64), .v .str, .v (.sl (.pair .str .str)), .v .str, .v (.sl .node)]] })]
def cx_Index_attr : Cx := mkCx [(59, [c_policy_Policy_allows_1])]
theorem eq_Index_attr (l : (List (Str × Str))) (rules : (List (Str × (Int × ((List Str) × (List Str)))))) (schemes : (List Str)) (others : Int) (strange : Int) (kind : Int) (space : Int) (nname : Str) (attrs : (List (Str × Str))) (text : Str) (kids : (List Vi.Node)) (R : ((p : Pat) × p.V) → Prop) : fnVc (cx_Index_attr) an_Index_attr 2 Tryz.f74 I_Index_attr [O_Index_attr] (l, rules, schemes, others, strange, kind, space, nname, attrs, text, kids, ()) R = Index_attr.vc (fun y0 y1 y2 y3 y4 y5 y6 y7 y8 y9 y10 => R ⟨O_Index_attr, (y0, y1, y2, y3, y4, y5, y6, y7, y8, y9, y10, ())⟩) l rules schemes others strange kind space nname attrs text kids := by kernel_rfl
theorem fs_Index_attr : CtrsOk Tryz.prog [(59, [c_policy_Policy_allows_1])] gl := ⟨ctr1 (ctr_policy_Policy_allows_1), trivial⟩
theorem vc_Index_attr (H : Nat → Entry) (v : c_Index_attr.inp.V) (r : (p : Pat) × p.V) (h : (c_Index_attr.body v).Sel H r) : fnVc (cx_Index_attr) an_Index_attr 2 Tryz.f74 c_Index_attr.inp [O_Index_attr] v (fun r' => r' = r) := by
  obtain ⟨l, rules, schemes, others, strange, kind, space, nname, attrs, text, kids, ⟨⟩⟩ := v
  obtain ⟨h, rfl⟩ := h
  exact Eq.mpr (eq_Index_attr l rules schemes others strange kind space nname attrs text kids _) (Index_attr.ok _ l rules schemes others strange kind space nname attrs text kids h rfl)
theorem ctr_Index_attr : CtrOk Tryz.prog 74 c_Index_attr gl := ⟨⟨_, Tryz.func74, by kernel_rfl, by kernel_rfl⟩, fun H v r h => mk_ok _ (fs_Index_attr) (an := an_Index_attr) (outs := [O_Index_attr]) Tryz.func74 (by decide) (vc_Index_attr H v r h)⟩
abbrev I_Contains_attr : Pat := { slots := [(0, .ce (.v (.sl (.pair .str .str)))), (1, .ce (.fn 59 [] [0, 1]))], ents := [.box 25 [.v (.sl (.pair .str (.pair (.int .i64) (.pair (.sl .str) (.sl .str))))), .v (.sl .str), .v (.int .i64), .v (.int .i64)], .box 55 [.v (.int .i64), .v (.int .i64), .v .str, .v (.sl (.pair .str .str)), .v .str, .v (.sl .node)]] }
abbrev O_Contains_attr : Pat := { slots := [(0, .ce (.v .bool))], ents := [.box 25 [.v (.sl (.pair .str (.pair (.int .i64) (.pair (.sl .str) (.sl .str))))), .v (.sl .str), .v (.int .i64), .v (.int .i64)], .box 55 [.v (.int .i64), .v (.int .i64), .v .str, .v (.sl (.pair .str .str)), .v .str, .v (.sl .node)]] }
def c_Contains_attr : Ctr := { k0 := 2, inp := I_Contains_attr, body := fun v => .need (Sp.polOk (v.2.1, v.2.2.1, v.2.2.2.1, v.2.2.2.2.1) ∧ Sp.attrsOk v.1) (.ret ⟨O_Contains_attr, (Sp.anyAt v.1 (v.2.1, v.2.2.1, v.2.2.2.1, v.2.2.2.2.1) (Vi.Node.mk v.2.2.2.2.2.1 v.2.2.2.2.2.2.1 v.2.2.2.2.2.2.2.1 v.2.2.2.2.2.2.2.2.1 v.2.2.2.2.2.2.2.2.2.1 v.2.2.2.2.2.2.2.2.2.2.1), v.2.1, v.2.2.1, v.2.2.2.1, v.2.2.2.2.1, v.2.2.2.2.2.1, v.2.2.2.2.2.2.1, v.2.2.2.2.2.2.2.1, v.2.2.2.2.2.2.2.2.1, v.2.2.2.2.2.2.2.2.2.1, v.2.2.2.2.2.2.2.2.2.2.1, ())⟩), ex := 0 }
def an_Contains_attr : Ann := []
def cx_Contains_attr : Cx := mkCx [(74, [c_Index_attr])]
theorem eq_Contains_attr (l : (List (Str × Str))) (rules : (List (Str × (Int × ((List Str) × (List Str)))))) (schemes : (List Str)) (others : Int) (strange : Int) (kind : Int) (space : Int) (nname : Str) (attrs : (List (Str × Str))) (text : Str) (kids : (List Vi.Node)) (R : ((p : Pat) × p.V) → Prop) : fnVc (cx_Contains_attr) an_Contains_attr 2 Tryz.f58 I_Contains_attr [O_Contains_attr] (l, rules, schemes, others, strange, kind, space, nname, attrs, text, kids, ()) R = Contains_attr.vc (fun y0 y1 y2 y3 y4 y5 y6 y7 y8 y9 y10 => R ⟨O_Contains_attr, (y0, y1, y2, y3, y4, y5, y6, y7, y8, y9, y10, ())⟩) l rules schemes others strange kind space nname attrs text kids := by kernel_rfl
theorem fs_Contains_attr : CtrsOk Tryz.prog [(74, [c_Index_attr])] gl := ⟨ctr1 (ctr_Index_attr), trivial⟩
theorem vc_Contains_attr (H : Nat → Entry) (v : c_Contains_attr.inp.V) (r : (p : Pat) × p.V) (h : (c_Contains_attr.body v).Sel H r) : fnVc (cx_Contains_attr) an_Contains_attr 2 Tryz.f58 c_Contains_attr.inp [O_Contains_attr] v (fun r' => r' = r) := by
  obtain ⟨l, rules, schemes, others, strange, kind, space, nname, attrs, text, kids, ⟨⟩⟩ := v
  obtain ⟨h, rfl⟩ := h
  exact Eq.mpr (eq_Contains_attr l rules schemes others strange kind space nname attrs text kids _) (Contains_attr.ok _ l rules schemes others strange kind space nname attrs text kids h rfl)
theorem ctr_Contains_attr : CtrOk Tryz.prog 58 c_Contains_attr gl := ⟨⟨_, Tryz.func58, by kernel_rfl, by kernel_rfl⟩, fun H v r h => mk_ok _ (fs_Contains_attr) (an := an_Contains_attr) (outs := [O_Contains_attr]) Tryz.func58 (by decide) (vc_Contains_attr H v r h)⟩
abbrev I_policy_Policy_allows : Pat := { slots := [(0, .ag (.pair (.sl (.pair .str (.pair (.int .i64) (.pair (.sl .str) (.sl .str))))) (.pair (.sl .str) (.pair (.int .i64) (.int .i64))))), (1, .ag .node)], ents := [] }
abbrev O_policy_Policy_allows : Pat := { slots := [(0, .ce (.v .bool))], ents := [] }
def c_policy_Policy_allows : Ctr := { k0 := 0, inp := I_policy_Policy_allows, body := fun v => .need (Sp.allowsN.pre v.1 v.2.1) (.ret ⟨O_policy_Policy_allows, ((Sp.allowsN v.1 v.2.1), ())⟩), ex := 0 }
def an_policy_Policy_allows : Ann := []
def cx_policy_Policy_allows : Cx := mkCx [(58, [c_Contains_attr]), (61, [c_policy_Policy_act])]
theorem eq_policy_Policy_allows (p : ((List (Str × (Int × ((List Str) × (List Str))))) × ((List Str) × (Int × Int)))) (n : Vi.Node) (R : ((p : Pat) × p.V) → Prop) : fnVc (cx_policy_Policy_allows) an_policy_Policy_allows 0 Tryz.f40 I_policy_Policy_allows [O_policy_Policy_allows] (p, n, ()) R = policy_Policy_allows.vc (fun y0 => R ⟨O_policy_Policy_allows, (y0, ())⟩) p n := by kernel_rfl
theorem fs_policy_Policy_allows : CtrsOk Tryz.prog [(58, [c_Contains_attr]), (61, [c_policy_Policy_act])] gl := ⟨ctr1 (ctr_Contains_attr), ctr1 (ctr_policy_Policy_act), trivial⟩
theorem vc_policy_Policy_allows (H : Nat → Entry) (v : c_policy_Policy_allows.inp.V) (r : (p : Pat) × p.V) (h : (c_policy_Policy_allows.body v).Sel H r) : fnVc (cx_policy_Policy_allows) an_policy_Policy_allows 0 Tryz.f40 c_policy_Policy_allows.inp [O_policy_Policy_allows] v (fun r' => r' = r) := by
  obtain ⟨p, n, ⟨⟩⟩ := v
  obtain ⟨h, rfl⟩ := h
  exact Eq.mpr (eq_policy_Policy_allows p n _) (policy_Policy_allows.ok _ p n h rfl)
theorem ctr_policy_Policy_allows : CtrOk Tryz.prog 40 c_policy_Policy_allows gl := ⟨⟨_, Tryz.func40, by kernel_rfl, by kernel_rfl⟩, fun H v r h => mk_ok _ (fs_policy_Policy_allows) (an := an_policy_Policy_allows) (outs := [O_policy_Policy_allows]) Tryz.func40 (by decide) (vc_policy_Policy_allows H v r h)⟩
abbrev I_policy_Policy_first : Pat := { slots := [(0, .ag (.pair (.sl (.pair .str (.pair (.int .i64) (.pair (.sl .str) (.sl .str))))) (.pair (.sl .str) (.pair (.int .i64) (.int .i64))))), (1, .ce (.v (.sl .node)))], ents := [] }
abbrev O_policy_Policy_first : Pat := { slots := [(0, .ag .node), (1, .ce (.v .bool))], ents := [] }
def r_policy_Policy_first (nn : Nat) : Ctr := { k0 := 0, inp := I_policy_Policy_first, body := fun v => .need (Sp.fiL.pre v.1 v.2.1 ∧ Sp.mFi v.1 v.2.1 < nn) (.ret ⟨O_policy_Policy_first, ((Sp.fiL v.1 v.2.1).1, (Sp.fiL v.1 v.2.1).2, ())⟩), ex := 0 }
def c_policy_Policy_first : Ctr := { k0 := 0, inp := I_policy_Policy_first, body := fun v => .need (Sp.fiL.pre v.1 v.2.1) (.ret ⟨O_policy_Policy_first, ((Sp.fiL v.1 v.2.1).1, (Sp.fiL v.1 v.2.1).2, ())⟩), ex := 0 }
def an_policy_Policy_first : Ann := [(2, { slots := [(2, .ce (.ptr 0 0)), (4, .ce (.ptr 1 0)), (10, .ce (.v (.sl .node))), (11, .ce (.v (.int .i64))), (12, .ce (.v (.int .i64)))], ents := [.box 25 [.v (.sl (.pair .str (.pair (.int .i64) (.pair (.sl .str) (.sl .str))))), .v (.sl .str), .v (.int .i64), .v (.int .i64)], .box 55 [.v (.int .i64), .v (.int .i64), .v .str, .v (.sl (.pair .str .str)), .v .str, .v (.sl .node)]] })]
def cx_policy_Policy_first (nn : Nat) : Cx := mkCx [(40, [c_policy_Policy_allows]), (22, [r_policy_Policy_first nn])]
theorem eq_policy_Policy_first (nn : Nat) (p : ((List (Str × (Int × ((List Str) × (List Str))))) × ((List Str) × (Int × Int)))) (l : (List Vi.Node)) (R : ((p : Pat) × p.V) → Prop) : fnVc (cx_policy_Policy_first nn) an_policy_Policy_first 0 Tryz.f22 I_policy_Policy_first [O_policy_Policy_first] (p, l, ()) R = policy_Policy_first.vc (fun y0 y1 => R ⟨O_policy_Policy_first, (y0, y1, ())⟩) nn p l := by kernel_rfl
theorem fs_policy_Policy_first (nn : Nat) (ih_policy_Policy_first : CtrOk Tryz.prog 22 (r_policy_Policy_first nn) gl) : CtrsOk Tryz.prog [(40, [c_policy_Policy_allows]), (22, [r_policy_Policy_first nn])] gl := ⟨(ctr1 (ctr_policy_Policy_allows)), (ctr1 ih_policy_Policy_first), trivial⟩
theorem grp_first (nn : Nat) : CtrOk Tryz.prog 22 (r_policy_Policy_first nn) gl := by
  induction nn with
  | zero => exact ⟨⟨_, Tryz.func22, by kernel_rfl, by kernel_rfl⟩, fun H v r h => absurd h.1.2 (Nat.not_lt_zero _)⟩
  | succ nn ih =>
  have ih_policy_Policy_first := ih
  refine ⟨⟨_, Tryz.func22, by kernel_rfl, by kernel_rfl⟩, ?_⟩
  · intro H v r h
    obtain ⟨p, l, ⟨⟩⟩ := v
    obtain ⟨h, rfl⟩ := h
    exact mk_ok _ (fs_policy_Policy_first nn ih_policy_Policy_first) (an := an_policy_Policy_first) (outs := [O_policy_Policy_first]) Tryz.func22 (Nat.le_of_ble_eq_true rfl) (Eq.mpr (eq_policy_Policy_first nn p l _) (policy_Policy_first.ok nn _ p l h rfl))

theorem ctr_policy_Policy_first : CtrOk Tryz.prog 22 c_policy_Policy_first gl := ⟨⟨_, Tryz.func22, by kernel_rfl, by kernel_rfl⟩, fun H v r h => ((grp_first (Sp.mFi v.1 v.2.1 + 1)).2 H v r ⟨⟨h.1, Nat.lt_succ_self _⟩, h.2⟩).body⟩
abbrev I_policy_Allows : Pat := { slots := [(0, .ag (.pair (.sl (.pair .str (.pair (.int .i64) (.pair (.sl .str) (.sl .str))))) (.pair (.sl .str) (.pair (.int .i64) (.int .i64))))), (1, .ce (.v (.sl .node)))], ents := [] }
abbrev O_policy_Allows : Pat := { slots := [(0, .ce (.v .bool))], ents := [] }
def c_policy_Allows : Ctr := { k0 := 0, inp := I_policy_Allows, body := fun v => .need (Sp.allowsP.pre v.1 v.2.1) (.ret ⟨O_policy_Allows, ((Sp.allowsP v.1 v.2.1), ())⟩), ex := 0 }
def an_policy_Allows : Ann := []
def cx_policy_Allows : Cx := mkCx [(7, [c_policy_Check]), (22, [c_policy_Policy_first])]
theorem eq_policy_Allows (p : ((List (Str × (Int × ((List Str) × (List Str))))) × ((List Str) × (Int × Int)))) (l : (List Vi.Node)) (R : ((p : Pat) × p.V) → Prop) : fnVc (cx_policy_Allows) an_policy_Allows 0 Tryz.f11 I_policy_Allows [O_policy_Allows] (p, l, ()) R = policy_Allows.vc (fun y0 => R ⟨O_policy_Allows, (y0, ())⟩) p l := by kernel_rfl
theorem fs_policy_Allows : CtrsOk Tryz.prog [(7, [c_policy_Check]), (22, [c_policy_Policy_first])] gl := ⟨ctr1 (ctr_policy_Check), ctr1 (ctr_policy_Policy_first), trivial⟩
theorem vc_policy_Allows (H : Nat → Entry) (v : c_policy_Allows.inp.V) (r : (p : Pat) × p.V) (h : (c_policy_Allows.body v).Sel H r) : fnVc (cx_policy_Allows) an_policy_Allows 0 Tryz.f11 c_policy_Allows.inp [O_policy_Allows] v (fun r' => r' = r) := by
  obtain ⟨p, l, ⟨⟩⟩ := v
  obtain ⟨h, rfl⟩ := h
  exact Eq.mpr (eq_policy_Allows p l _) (policy_Allows.ok _ p l h rfl)
theorem ctr_policy_Allows : CtrOk Tryz.prog 11 c_policy_Allows gl := ⟨⟨_, Tryz.func11, by kernel_rfl, by kernel_rfl⟩, fun H v r h => mk_ok _ (fs_policy_Allows) (an := an_policy_Allows) (outs := [O_policy_Allows]) Tryz.func11 (by decide) (vc_policy_Allows H v r h)⟩
abbrev I_rectoref06_Name : Pat := { slots := [(0, .ce (.v .str))], ents := [] }
abbrev O_rectoref06_Name : Pat := { slots := [(0, .ce (.v .bool))], ents := [] }
def c_rectoref06_Name : Ctr := { k0 := 0, inp := I_rectoref06_Name, body := fun v => .need (Sp.nameS.pre v.1) (.ret ⟨O_rectoref06_Name, ((Sp.nameS v.1), ())⟩), ex := 0 }
def an_rectoref06_Name : Ann := [(2, { slots := [(0, .ce (.v .str)), (3, .ce (.v (.int .i64)))], ents := [] })]
def cx_rectoref06_Name : Cx := mkCx []
theorem eq_rectoref06_Name (s : Str) (R : ((p : Pat) × p.V) → Prop) : fnVc (cx_rectoref06_Name) an_rectoref06_Name 0 Tryz.f63 I_rectoref06_Name [O_rectoref06_Name] (s, ()) R = rectoref06_Name.vc (fun y0 => R ⟨O_rectoref06_Name, (y0, ())⟩) s := by kernel_rfl
theorem fs_rectoref06_Name : CtrsOk Tryz.prog [] gl := trivial
theorem vc_rectoref06_Name (H : Nat → Entry) (v : c_rectoref06_Name.inp.V) (r : (p : Pat) × p.V) (h : (c_rectoref06_Name.body v).Sel H r) : fnVc (cx_rectoref06_Name) an_rectoref06_Name 0 Tryz.f63 c_rectoref06_Name.inp [O_rectoref06_Name] v (fun r' => r' = r) := by
  obtain ⟨s, ⟨⟩⟩ := v
  obtain ⟨h, rfl⟩ := h
  exact Eq.mpr (eq_rectoref06_Name s _) (rectoref06_Name.ok _ s h rfl)
theorem ctr_rectoref06_Name : CtrOk Tryz.prog 63 c_rectoref06_Name gl := ⟨⟨_, Tryz.func63, by kernel_rfl, by kernel_rfl⟩, fun H v r h => mk_ok _ (fs_rectoref06_Name) (an := an_rectoref06_Name) (outs := [O_rectoref06_Name]) Tryz.func63 (by decide) (vc_rectoref06_Name H v r h)⟩
abbrev I_rectoplain_Large : Pat := { slots := [(0, .ce (.v (.sl .node))), (1, .ce (.ptr 0 0)), (2, .ce (.v (.int .i64)))], ents := [.box 48 [.v (.int .i64)]] }
abbrev O_rectoplain_Large : Pat := { slots := [(0, .ce (.v .bool))], ents := [.box 48 [.v (.int .i64)]] }
def r_rectoplain_Large (nn : Nat) : Ctr := { k0 := 1, inp := I_rectoplain_Large, body := fun v => .need (Sp.lg.pre v.1 v.2.1 v.2.2.1 ∧ Sp.mLg v.1 v.2.1 v.2.2.1 < nn) (.ret ⟨O_rectoplain_Large, ((Sp.lg v.1 v.2.1 v.2.2.1).1, (Sp.lg v.1 v.2.1 v.2.2.1).2, ())⟩), ex := 0 }
def c_rectoplain_Large : Ctr := { k0 := 1, inp := I_rectoplain_Large, body := fun v => .need (Sp.lg.pre v.1 v.2.1 v.2.2.1) (.ret ⟨O_rectoplain_Large, ((Sp.lg v.1 v.2.1 v.2.2.1).1, (Sp.lg v.1 v.2.1 v.2.2.1).2, ())⟩), ex := 0 }
def an_rectoplain_Large : Ann := [(4, { slots := [(1, .ce (.ptr 0 0)), (2, .ce (.v (.int .i64))), (18, .ce (.v (.sl .node))), (19, .ce (.v (.int .i64))), (20, .ce (.v (.int .i64)))], ents := [.box 48 [.v (.int .i64)]] }), (11, { slots := [(1, .ce (.ptr 0 0)), (2, .ce (.v (.int .i64))), (8, .ce (.ptr 1 0)), (18, .ce (.v (.sl .node))), (19, .ce (.v (.int .i64))), (20, .ce (.v (.int .i64))), (72, .ce (.v (.sl (.pair .str .str)))), (73, .ce (.v (.int .i64))), (74, .ce (.v (.int .i64)))], ents := [.box 48 [.v (.int .i64)], .box 55 [.v (.int .i64), .v (.int .i64), .v .str, .v (.sl (.pair .str .str)), .v .str, .v (.sl .node)]] })]
def cx_rectoplain_Large (nn : Nat) : Cx := mkCx [(16, [r_rectoplain_Large nn])]
theorem eq_rectoplain_Large (nn : Nat) (l : (List Vi.Node)) (depth : Int) (room : Int) (R : ((p : Pat) × p.V) → Prop) : fnVc (cx_rectoplain_Large nn) an_rectoplain_Large 1 Tryz.f16 I_rectoplain_Large [O_rectoplain_Large] (l, depth, room, ()) R = rectoplain_Large.vc (fun y0 y1 => R ⟨O_rectoplain_Large, (y0, y1, ())⟩) nn l depth room := by kernel_rfl
theorem fs_rectoplain_Large (nn : Nat) (ih_rectoplain_Large : CtrOk Tryz.prog 16 (r_rectoplain_Large nn) gl) : CtrsOk Tryz.prog [(16, [r_rectoplain_Large nn])] gl := ⟨(ctr1 ih_rectoplain_Large), trivial⟩
theorem grp_large (nn : Nat) : CtrOk Tryz.prog 16 (r_rectoplain_Large nn) gl := by
  induction nn with
  | zero => exact ⟨⟨_, Tryz.func16, by kernel_rfl, by kernel_rfl⟩, fun H v r h => absurd h.1.2 (Nat.not_lt_zero _)⟩
  | succ nn ih =>
  have ih_rectoplain_Large := ih
  refine ⟨⟨_, Tryz.func16, by kernel_rfl, by kernel_rfl⟩, ?_⟩
  · intro H v r h
    obtain ⟨l, depth, room, ⟨⟩⟩ := v
    obtain ⟨h, rfl⟩ := h
    exact mk_ok _ (fs_rectoplain_Large nn ih_rectoplain_Large) (an := an_rectoplain_Large) (outs := [O_rectoplain_Large]) Tryz.func16 (Nat.le_of_ble_eq_true rfl) (Eq.mpr (eq_rectoplain_Large nn l depth room _) (rectoplain_Large.ok nn _ l depth room h rfl))

theorem ctr_rectoplain_Large : CtrOk Tryz.prog 16 c_rectoplain_Large gl := ⟨⟨_, Tryz.func16, by kernel_rfl, by kernel_rfl⟩, fun H v r h => ((grp_large (Sp.mLg v.1 v.2.1 v.2.2.1 + 1)).2 H v r ⟨⟨h.1, Nat.lt_succ_self _⟩, h.2⟩).body⟩
end Vs
