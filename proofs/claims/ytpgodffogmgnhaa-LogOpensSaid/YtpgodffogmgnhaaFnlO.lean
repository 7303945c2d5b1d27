/- Functions held against what they tell. Written by a program of this session. -/
import Derived.Test.YtpgodffogmgnhaaPlO
import Derived.Test.YtpgodffogmgnhaaViThree
import Derived.Test.YtpgodffogmgnhaaFnlJ
set_option linter.unnecessarySimpa false
set_option linter.unusedVariables false
set_option linter.unusedSectionVars false
set_option linter.unusedSimpArgs false
set_option autoImplicit false
set_option linter.unusedVariables false
set_option maxRecDepth 100000
attribute [local irreducible] Vi.fnVc
namespace Vs
open Go Vi Go.Proofs
abbrev I_rectoref29_Of : Pat := { slots := [(0, .ce (.v .str))], ents := [] }
abbrev O_rectoref29_Of : Pat := { slots := [(0, .ag (.pair (.sl .str) .bool))], ents := [] }
def c_rectoref29_Of : Ctr := { k0 := 0, inp := I_rectoref29_Of, body := fun v => .need (Sp.ofB.pre v.1) (.ret ⟨O_rectoref29_Of, ((Sp.ofB v.1), ())⟩), ex := 0 }
def an_rectoref29_Of : Ann := [(3, { slots := [(2, .ce (.ptr 0 0)), (3, .ce (.ptr 2 0)), (4, .ce (.v .str))], ents := [.box 120 [.os 1, .v .bool], .row 9 .str, .box 120 [.os 3, .v .bool], .row 9 .str] })]
def cx_rectoref29_Of : Cx := mkCx [(90, [c_rectoref01_TakeText])]
theorem eq_rectoref29_Of (b : Str) (R : ((p : Pat) × p.V) → Prop) : fnVc (cx_rectoref29_Of) an_rectoref29_Of 0 Try.f63 I_rectoref29_Of [O_rectoref29_Of] (b, ()) R = rectoref29_Of.vc (fun y0 => R ⟨O_rectoref29_Of, (y0, ())⟩) b := by kernel_rfl
theorem fs_rectoref29_Of : CtrsOk Try.prog [(90, [c_rectoref01_TakeText])] := ⟨ctr1 (ctr_rectoref01_TakeText), trivial⟩
theorem vc_rectoref29_Of (H : Nat → Entry) (v : c_rectoref29_Of.inp.V) (r : (p : Pat) × p.V) (h : (c_rectoref29_Of.body v).Sel H r) : fnVc (cx_rectoref29_Of) an_rectoref29_Of 0 Try.f63 c_rectoref29_Of.inp [O_rectoref29_Of] v (fun r' => r' = r) := by
  obtain ⟨b, ⟨⟩⟩ := v
  obtain ⟨h, rfl⟩ := h
  exact Eq.mpr (eq_rectoref29_Of b _) (rectoref29_Of.ok _ b h rfl)
theorem ctr_rectoref29_Of : CtrOk Try.prog 63 c_rectoref29_Of := ⟨⟨_, Try.func63, by kernel_rfl, by kernel_rfl⟩, fun H v r h => mk_ok _ (fs_rectoref29_Of) (an := an_rectoref29_Of) (outs := [O_rectoref29_Of]) Try.func63 (by decide) (vc_rectoref29_Of H v r h)⟩
abbrev I_rectoref29_Open : Pat := { slots := [(0, .ce (.ptr 0 0)), (1, .ag (.pair (.int .i64) (.pair (.int .i64) (.int .i64))))], ents := [.box 68 [.os 1, .os 2, .v .bool, .v .bool, .v (.int .i64), .v .bool, .v (.sl (.int .i64))], .row 9 .str, .row 103 (.pair (.int .i64) .str)] }
abbrev O_rectoref29_Open_0 : Pat := { slots := [(0, .sc [.nilp, .v (.int .i64)])], ents := [.box 68 [.os 1, .os 2, .v .bool, .v .bool, .v (.int .i64), .v .bool, .v (.sl (.int .i64))], .row 9 .str, .row 103 (.pair (.int .i64) .str)] }
abbrev O_rectoref29_Open_1 : Pat := { slots := [(0, .sc [.ptr 3 0, .v (.int .i64)])], ents := [.box 68 [.os 1, .os 2, .v .bool, .v .bool, .v (.int .i64), .v .bool, .v (.sl (.int .i64))], .row 9 .str, .row 103 (.pair (.int .i64) .str), .box 44 [.v (.int .i64), .v (.int .i64), .v (.sl .str), .v (.int .i64)]] }
def c_rectoref29_Open : Ctr := { k0 := 1, inp := I_rectoref29_Open, body := fun v => .need (Sp.roPre v.1 (v.2.1, v.2.2.1, v.2.2.2.1, v.2.2.2.2.1, v.2.2.2.2.2.1, v.2.2.2.2.2.2.1, v.2.2.2.2.2.2.2.1)) ((.br (Sp.roNil v.1 (v.2.1, v.2.2.1, v.2.2.2.1, v.2.2.2.2.1, v.2.2.2.2.2.1, v.2.2.2.2.2.2.1, v.2.2.2.2.2.2.2.1)) (.ret ⟨O_rectoref29_Open_0, ((Sp.roErr v.1 (v.2.1, v.2.2.1, v.2.2.2.1, v.2.2.2.2.1, v.2.2.2.2.2.1, v.2.2.2.2.2.2.1, v.2.2.2.2.2.2.2.1)), v.2.1, v.2.2.1, v.2.2.2.1, v.2.2.2.2.1, v.2.2.2.2.2.1, v.2.2.2.2.2.2.1, v.2.2.2.2.2.2.2.1, ())⟩) (.ret ⟨O_rectoref29_Open_1, ((0 : Int), v.2.1, v.2.2.1, v.2.2.2.1, v.2.2.2.2.1, v.2.2.2.2.2.1, v.2.2.2.2.2.2.1, v.2.2.2.2.2.2.2.1, v.1.1, v.1.2.1, (Sp.roL v.1 (v.2.1, v.2.2.1, v.2.2.2.1, v.2.2.2.2.1, v.2.2.2.2.2.1, v.2.2.2.2.2.2.1, v.2.2.2.2.2.2.2.1)), ((Sp.roL v.1 (v.2.1, v.2.2.1, v.2.2.2.1, v.2.2.2.2.1, v.2.2.2.2.2.1, v.2.2.2.2.2.2.1, v.2.2.2.2.2.2.2.1)).length : Int), ())⟩))), ex := 0 }
def an_rectoref29_Open : Ann := [(5, { slots := [(0, .ce (.ptr 0 0)), (3, .ce (.ptr 3 0)), (4, .ce (.ptr 4 0)), (5, .ce (.v .str)), (6, .ce (.v (.int .i64)))], ents := [.box 68 [.os 1, .os 2, .v .bool, .v .bool, .v (.int .i64), .v .bool, .v (.sl (.int .i64))], .row 9 .str, .row 103 (.pair (.int .i64) .str), .box 39 [.v (.int .i64), .v (.int .i64), .v (.int .i64)], .box 36 [.nilp, .v (.int .i64)]] })]
def cx_rectoref29_Open : Cx := mkCx [(62, [c_rectoref27_Disk_Read]), (63, [c_rectoref29_Of])]
theorem eq_rectoref29_Open (q : (Int × (Int × Int))) (rdown : Bool) (rarmed : Bool) (rafter : Int) (racut : Bool) (rkeep : (List Int)) (rbs : (List Str)) (rws : (List (Int × Str))) (R : ((p : Pat) × p.V) → Prop) : fnVc cx_rectoref29_Open an_rectoref29_Open 1 Try.f17 I_rectoref29_Open [O_rectoref29_Open_0, O_rectoref29_Open_1] (q, rdown, rarmed, rafter, racut, rkeep, rbs, rws, ()) R = rectoref29_Open.vc (fun y0 y1 y2 y3 y4 y5 y6 y7 => R ⟨O_rectoref29_Open_0, (y0, y1, y2, y3, y4, y5, y6, y7, ())⟩) (fun y0 y1 y2 y3 y4 y5 y6 y7 y8 y9 y10 y11 => R ⟨O_rectoref29_Open_1, (y0, y1, y2, y3, y4, y5, y6, y7, y8, y9, y10, y11, ())⟩) q rdown rarmed rafter racut rkeep rbs rws := by kernel_rfl
theorem fs_rectoref29_Open : CtrsOk Try.prog [(62, [c_rectoref27_Disk_Read]), (63, [c_rectoref29_Of])] := ⟨ctr1 (ctr_rectoref27_Disk_Read), ctr1 (ctr_rectoref29_Of), trivial⟩
theorem vc_rectoref29_Open (H : Nat → Entry) (v : c_rectoref29_Open.inp.V) (r : (p : Pat) × p.V) (h : (c_rectoref29_Open.body v).Sel H r) : fnVc cx_rectoref29_Open an_rectoref29_Open 1 Try.f17 c_rectoref29_Open.inp [O_rectoref29_Open_0, O_rectoref29_Open_1] v (fun r' => r' = r) := by
  obtain ⟨q, rdown, rarmed, rafter, racut, rkeep, rbs, rws, ⟨⟩⟩ := v
  obtain ⟨hp, h⟩ := h
  rcases sel_br h with ⟨hb, h⟩ | ⟨hb, h⟩
  · subst h; exact Eq.mpr (eq_rectoref29_Open q rdown rarmed rafter racut rkeep rbs rws _) (rectoref29_Open.ok _ _ q rdown rarmed rafter racut rkeep rbs rws hp (fun _ => rfl) (fun e => absurd (e.symm.trans hb) (by decide)))
  · subst h; exact Eq.mpr (eq_rectoref29_Open q rdown rarmed rafter racut rkeep rbs rws _) (rectoref29_Open.ok _ _ q rdown rarmed rafter racut rkeep rbs rws hp (fun e => absurd (e.symm.trans hb) (by decide)) (fun _ => rfl))

theorem ctr_rectoref29_Open : CtrOk Try.prog 17 c_rectoref29_Open := ⟨⟨_, Try.func17, by kernel_rfl, by kernel_rfl⟩, fun H v r h => mk_ok _ fs_rectoref29_Open (an := an_rectoref29_Open) (outs := [O_rectoref29_Open_0, O_rectoref29_Open_1]) Try.func17 (by decide) (vc_rectoref29_Open H v r h)⟩
abbrev I_rectolaw29_LogOpens : Pat := { slots := [(0, .ce (.v .str)), (1, .ce (.v (.int .i64))), (2, .ce (.v (.int .i64)))], ents := [] }
abbrev O_rectolaw29_LogOpens : Pat := { slots := [(0, .ce (.v .bool))], ents := [] }
def c_rectolaw29_LogOpens : Ctr := { k0 := 0, inp := I_rectolaw29_LogOpens, body := fun v => .need (Sz .str v.1 ∧ Sz (.int .i64) v.2.1 ∧ Sz (.int .i64) v.2.2.1) (.ret ⟨O_rectolaw29_LogOpens, ((Sp.tt), ())⟩), ex := 0 }
def an_rectolaw29_LogOpens : Ann := [(6, { slots := [(0, .ce (.v .str)), (1, .ce (.v (.int .i64))), (2, .ce (.v (.int .i64))), (7, .ce (.ptr 0 0)), (9, .ce (.ptr 3 0)), (10, .ce (.v (.int .i64)))], ents := [.box 96 [.os 1, .os 2, .v .bool, .v .bool, .v (.int .i64), .v .bool, .v (.sl (.int .i64))], .row 89 (.arr 4 .str), .row 101 (.pair (.int .i64) (.arr 4 .str)), .box 68 [.os 4, .os 5, .v .bool, .v .bool, .v (.int .i64), .v .bool, .v (.sl (.int .i64))], .row 9 .str, .row 103 (.pair (.int .i64) .str)] }), (11, { slots := [(0, .ce (.v .str)), (1, .ce (.v (.int .i64))), (2, .ce (.v (.int .i64))), (7, .ce (.ptr 0 0)), (9, .ce (.ptr 3 0)), (10, .ce (.v (.int .i64))), (11, .ce (.v .str))], ents := [.box 96 [.os 1, .os 2, .v .bool, .v .bool, .v (.int .i64), .v .bool, .v (.sl (.int .i64))], .row 89 (.arr 4 .str), .row 101 (.pair (.int .i64) (.arr 4 .str)), .box 68 [.os 4, .os 5, .v .bool, .v .bool, .v (.int .i64), .v .bool, .v (.sl (.int .i64))], .row 9 .str, .row 103 (.pair (.int .i64) .str)] })]
def cx_rectolaw29_LogOpens : Cx := mkCx [(11, [c_disk_New]), (12, [c_rectolaw29_ab]), (13, [c_rectoref27_New]), (14, [c_disk_Disk_Write, c_disk_Write_nil]), (15, [c_rectoref27_Disk_Write]), (16, [c_log_Open, c_log_Open_nil]), (17, [c_rectoref29_Open]), (19, [c_log_Log_Records, c_log_Records_nil]), (18, [c_rectoplain_Texts]), (20, [c_log_Log_Sealed, c_log_Sealed_nil])]
theorem eq_rectolaw29_LogOpens (b : Str) (from_ : Int) (sealed : Int) (R : ((p : Pat) × p.V) → Prop) : fnVc (cx_rectolaw29_LogOpens) an_rectolaw29_LogOpens 0 Try.f3 I_rectolaw29_LogOpens [O_rectolaw29_LogOpens] (b, from_, sealed, ()) R = rectolaw29_LogOpens.vc (fun y0 => R ⟨O_rectolaw29_LogOpens, (y0, ())⟩) b from_ sealed := by kernel_rfl
theorem fs_rectolaw29_LogOpens : CtrsOk Try.prog [(11, [c_disk_New]), (12, [c_rectolaw29_ab]), (13, [c_rectoref27_New]), (14, [c_disk_Disk_Write, c_disk_Write_nil]), (15, [c_rectoref27_Disk_Write]), (16, [c_log_Open, c_log_Open_nil]), (17, [c_rectoref29_Open]), (19, [c_log_Log_Records, c_log_Records_nil]), (18, [c_rectoplain_Texts]), (20, [c_log_Log_Sealed, c_log_Sealed_nil])] := ⟨ctr1 (ctr_disk_New), ctr1 (ctr_rectolaw29_ab), ctr1 (ctr_rectoref27_New), (ctrC (ctr_disk_Disk_Write) (ctr1 (ctr_disk_Write_nil))), ctr1 (ctr_rectoref27_Disk_Write), (ctrC (ctr_log_Open) (ctr1 (ctr_log_Open_nil))), ctr1 (ctr_rectoref29_Open), (ctrC (ctr_log_Log_Records) (ctr1 (ctr_log_Records_nil))), ctr1 (ctr_rectoplain_Texts), (ctrC (ctr_log_Log_Sealed) (ctr1 (ctr_log_Sealed_nil))), trivial⟩
theorem vc_rectolaw29_LogOpens (H : Nat → Entry) (v : c_rectolaw29_LogOpens.inp.V) (r : (p : Pat) × p.V) (h : (c_rectolaw29_LogOpens.body v).Sel H r) : fnVc (cx_rectolaw29_LogOpens) an_rectolaw29_LogOpens 0 Try.f3 c_rectolaw29_LogOpens.inp [O_rectolaw29_LogOpens] v (fun r' => r' = r) := by
  obtain ⟨b, from_, sealed, ⟨⟩⟩ := v
  obtain ⟨h, rfl⟩ := h
  exact Eq.mpr (eq_rectolaw29_LogOpens b from_ sealed _) (rectolaw29_LogOpens.ok _ b from_ sealed h rfl)
theorem ctr_rectolaw29_LogOpens : CtrOk Try.prog 3 c_rectolaw29_LogOpens := ⟨⟨_, Try.func3, by kernel_rfl, by kernel_rfl⟩, fun H v r h => mk_ok _ (fs_rectolaw29_LogOpens) (an := an_rectolaw29_LogOpens) (outs := [O_rectolaw29_LogOpens]) Try.func3 (by decide) (vc_rectolaw29_LogOpens H v r h)⟩
end Vs
