/- Functions held against what they tell. Written by a program of this session. -/
import Derived.Test.YtpgodffogmgnhaaPlJ
import Derived.Test.YtpgodffogmgnhaaViThree
import Derived.Test.YtpgodffogmgnhaaFnlL
set_option linter.unnecessarySimpa false
set_option linter.unusedVariables false
set_option linter.unusedSectionVars false
set_option linter.unusedSimpArgs false
set_option autoImplicit false
set_option linter.unusedVariables false
set_option maxRecDepth 100000
attribute [local irreducible] Vi.fnVc
namespace Vs
open Go Vi Go.Proofs
abbrev I_rectolaw29_LogLasts : Pat := { slots := [(0, .ce (.v (.sl .str))), (1, .ce (.v (.sl .str))), (2, .ce (.v (.sl (.int .i64))))], ents := [] }
abbrev O_rectolaw29_LogLasts : Pat := { slots := [(0, .ce (.v .bool))], ents := [] }
def c_rectolaw29_LogLasts : Ctr := { k0 := 0, inp := I_rectolaw29_LogLasts, body := fun v => .need (Sz (.sl .str) v.1 ∧ Sz (.sl .str) v.2.1 ∧ Sz (.sl (.int .i64)) v.2.2.1) (.ret ⟨O_rectolaw29_LogLasts, ((Sp.tt), ())⟩), ex := 0 }
def an_rectolaw29_LogLasts : Ann := [(9, { slots := [(1, .ce (.v (.sl .str))), (2, .ce (.v (.sl (.int .i64)))), (7, .ce (.ptr 0 0)), (9, .ce (.ptr 3 0)), (11, .ce (.os 4)), (64, .ce (.v (.sl .str))), (65, .ce (.v (.int .i64))), (66, .ce (.v (.int .i64)))], ents := [.box 96 [.os 1, .os 2, .v .bool, .v .bool, .v (.int .i64), .v .bool, .v (.sl (.int .i64))], .row 89 (.arr 4 .str), .row 101 (.pair (.int .i64) (.arr 4 .str)), .box 116 [.ptr 0 0, .v (.int .i64), .v (.int .i64), .v .str, .v (.int .i64)], .row 9 .str] }), (21, { slots := [(2, .ce (.v (.sl (.int .i64)))), (7, .ce (.ptr 0 0)), (9, .ce (.ptr 3 0)), (11, .ce (.os 4)), (14, .ce (.v (.int .i64))), (95, .ce (.v (.sl .str))), (96, .ce (.v (.int .i64))), (97, .ce (.v (.int .i64)))], ents := [.box 96 [.os 1, .os 2, .v .bool, .v .bool, .v (.int .i64), .v .bool, .v (.sl (.int .i64))], .row 89 (.arr 4 .str), .row 101 (.pair (.int .i64) (.arr 4 .str)), .box 116 [.ptr 0 0, .v (.int .i64), .v (.int .i64), .v .str, .v (.int .i64)], .row 9 .str] })]
def cx_rectolaw29_LogLasts : Cx := mkCx [(11, [c_disk_New]), (12, [c_rectolaw29_ab]), (16, [c_log_Open, c_log_Open_nil]), (24, [c_log_Log_Add, c_log_Add_nil]), (27, [c_log_Log_Write, c_log_Write_nil]), (28, [c_disk_Disk_Flush, c_disk_Flush_nil]), (25, [c_log_Log_Seal, c_log_Seal_nil]), (20, [c_log_Log_Sealed, c_log_Sealed_nil]), (29, [c_disk_Disk_Crash, c_disk_Crash_nil]), (30, [c_disk_Disk_Start, c_disk_Start_nil]), (19, [c_log_Log_Records, c_log_Records_nil]), (18, [c_rectoplain_Texts]), (21, [c_log_Log_Bytes, c_log_Bytes_nil])]
theorem eq_rectolaw29_LogLasts (t : (List Str)) (o : (List Str)) (A : (List Int)) (R : ((p : Pat) × p.V) → Prop) : fnVc (cx_rectolaw29_LogLasts) an_rectolaw29_LogLasts 0 Try.f6 I_rectolaw29_LogLasts [O_rectolaw29_LogLasts] (t, o, A, ()) R = rectolaw29_LogLasts.vc (fun y0 => R ⟨O_rectolaw29_LogLasts, (y0, ())⟩) t o A := by kernel_rfl
theorem fs_rectolaw29_LogLasts : CtrsOk Try.prog [(11, [c_disk_New]), (12, [c_rectolaw29_ab]), (16, [c_log_Open, c_log_Open_nil]), (24, [c_log_Log_Add, c_log_Add_nil]), (27, [c_log_Log_Write, c_log_Write_nil]), (28, [c_disk_Disk_Flush, c_disk_Flush_nil]), (25, [c_log_Log_Seal, c_log_Seal_nil]), (20, [c_log_Log_Sealed, c_log_Sealed_nil]), (29, [c_disk_Disk_Crash, c_disk_Crash_nil]), (30, [c_disk_Disk_Start, c_disk_Start_nil]), (19, [c_log_Log_Records, c_log_Records_nil]), (18, [c_rectoplain_Texts]), (21, [c_log_Log_Bytes, c_log_Bytes_nil])] := ⟨ctr1 (ctr_disk_New), ctr1 (ctr_rectolaw29_ab), (ctrC (ctr_log_Open) (ctr1 (ctr_log_Open_nil))), (ctrC (ctr_log_Log_Add) (ctr1 (ctr_log_Add_nil))), (ctrC (ctr_log_Log_Write) (ctr1 (ctr_log_Write_nil))), (ctrC (ctr_disk_Disk_Flush) (ctr1 (ctr_disk_Flush_nil))), (ctrC (ctr_log_Log_Seal) (ctr1 (ctr_log_Seal_nil))), (ctrC (ctr_log_Log_Sealed) (ctr1 (ctr_log_Sealed_nil))), (ctrC (ctr_disk_Disk_Crash) (ctr1 (ctr_disk_Crash_nil))), (ctrC (ctr_disk_Disk_Start) (ctr1 (ctr_disk_Start_nil))), (ctrC (ctr_log_Log_Records) (ctr1 (ctr_log_Records_nil))), ctr1 (ctr_rectoplain_Texts), (ctrC (ctr_log_Log_Bytes) (ctr1 (ctr_log_Bytes_nil))), trivial⟩
theorem vc_rectolaw29_LogLasts (H : Nat → Entry) (v : c_rectolaw29_LogLasts.inp.V) (r : (p : Pat) × p.V) (h : (c_rectolaw29_LogLasts.body v).Sel H r) : fnVc (cx_rectolaw29_LogLasts) an_rectolaw29_LogLasts 0 Try.f6 c_rectolaw29_LogLasts.inp [O_rectolaw29_LogLasts] v (fun r' => r' = r) := by
  obtain ⟨t, o, A, ⟨⟩⟩ := v
  obtain ⟨h, rfl⟩ := h
  exact Eq.mpr (eq_rectolaw29_LogLasts t o A _) (rectolaw29_LogLasts.ok _ t o A h rfl)
theorem ctr_rectolaw29_LogLasts : CtrOk Try.prog 6 c_rectolaw29_LogLasts := ⟨⟨_, Try.func6, by kernel_rfl, by kernel_rfl⟩, fun H v r h => mk_ok _ (fs_rectolaw29_LogLasts) (an := an_rectolaw29_LogLasts) (outs := [O_rectolaw29_LogLasts]) Try.func6 (by decide) (vc_rectolaw29_LogLasts H v r h)⟩
end Vs
