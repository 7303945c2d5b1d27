/- Functions held against what they tell. Written by a program of this session. -/
import Derived.Test.YtpgodffogmgnhaaPlL
import Derived.Test.YtpgodffogmgnhaaViThree
import Derived.Test.YtpgodffogmgnhaaFnlN
import Derived.Test.YtpgodffogmgnhaaRgl
set_option linter.unnecessarySimpa false
set_option linter.unusedVariables false
set_option linter.unusedSectionVars false
set_option linter.unusedSimpArgs false
set_option autoImplicit false
set_option linter.unusedVariables false
set_option maxRecDepth 100000
attribute [local irreducible] Vi.fnVc
namespace Vs
open Go Vi Go.Proofs
abbrev I_log_blocksOf : Pat := { slots := [(0, .ce (.v (.int .i64)))], ents := [] }
abbrev O_log_blocksOf : Pat := { slots := [(0, .ce (.v (.int .i64)))], ents := [] }
def c_log_blocksOf : Ctr := { k0 := 0, inp := I_log_blocksOf, body := fun v => .need (Sp.blocksOf.pre v.1) (.ret ⟨O_log_blocksOf, ((Sp.blocksOf v.1), ())⟩), ex := 0 }
def an_log_blocksOf : Ann := []
def cx_log_blocksOf : Cx := mkCx []
theorem eq_log_blocksOf (n : Int) (R : ((p : Pat) × p.V) → Prop) : fnVc (cx_log_blocksOf) an_log_blocksOf 0 Try.f57 I_log_blocksOf [O_log_blocksOf] (n, ()) R = log_blocksOf.vc (fun y0 => R ⟨O_log_blocksOf, (y0, ())⟩) n := by kernel_rfl
theorem fs_log_blocksOf : CtrsOk Try.prog [] := trivial
theorem vc_log_blocksOf (H : Nat → Entry) (v : c_log_blocksOf.inp.V) (r : (p : Pat) × p.V) (h : (c_log_blocksOf.body v).Sel H r) : fnVc (cx_log_blocksOf) an_log_blocksOf 0 Try.f57 c_log_blocksOf.inp [O_log_blocksOf] v (fun r' => r' = r) := by
  obtain ⟨n, ⟨⟩⟩ := v
  obtain ⟨h, rfl⟩ := h
  exact Eq.mpr (eq_log_blocksOf n _) (log_blocksOf.ok _ n h rfl)
theorem ctr_log_blocksOf : CtrOk Try.prog 57 c_log_blocksOf := ⟨⟨_, Try.func57, by kernel_rfl, by kernel_rfl⟩, fun H v r h => mk_ok _ (fs_log_blocksOf) (an := an_log_blocksOf) (outs := [O_log_blocksOf]) Try.func57 (by decide) (vc_log_blocksOf H v r h)⟩
abbrev I_log_whole : Pat := { slots := [(0, .ce (.v .str))], ents := [] }
abbrev O_log_whole : Pat := { slots := [(0, .ce (.v .bool))], ents := [] }
def c_log_whole : Ctr := { k0 := 0, inp := I_log_whole, body := fun v => .need (Sp.wholeB.pre v.1) (.ret ⟨O_log_whole, ((Sp.wholeB v.1), ())⟩), ex := 1 }

theorem len_bound (b : Str) (bl : Int) (h4 : bl ≤ 1000) (h7 : (List.length b : Int) ≤ 256 * bl) : List.length b ≤ 1000000 := by omega
theorem ctr_log_whole : CtrOk Try.prog 61 c_log_whole := ⟨⟨_, Try.func61, by kernel_rfl, by kernel_rfl⟩, fun H v r h => by
  obtain ⟨b, ⟨⟩⟩ := v
  obtain ⟨hp, h⟩ := h
  have hp : List.length b ≤ 1000000 := hp
  subst h
  refine pure_ok fun F S μ w us hF hex hs => ?_
  have hex : us.length = 1 := hex.resolve_left (by decide)
  match us, hex with
  | [u0], _ =>
  obtain ⟨rfl, hsl⟩ := str_of (x := b) (hs (0, _) (.head _))
  refine Calls.mono (callsIn_wide.1 (whole_in 4 (Nat.le_refl _) b hp w)) fun e w' he => ?_
  obtain ⟨rfl, hbel⟩ := he
  exact ⟨hbel, fun F' S' μ' _ _ => ⟨rfl, rfl, .bool _⟩⟩⟩

abbrev I_log_Log_Bytes : Pat := { slots := [(0, .ce (.ptr 0 0))], ents := [.box 116 [.ptr 1 0, .v (.int .i64), .v (.int .i64), .v .str, .v (.int .i64)], .box 96 [.os 2, .os 3, .v .bool, .v .bool, .v (.int .i64), .v .bool, .v (.sl (.int .i64))], .row 89 (.arr 4 .str), .row 101 (.pair (.int .i64) (.arr 4 .str))] }
abbrev O_log_Log_Bytes : Pat := { slots := [(0, .ce (.v (.int .i64)))], ents := [.box 116 [.ptr 1 0, .v (.int .i64), .v (.int .i64), .v .str, .v (.int .i64)], .box 96 [.os 2, .os 3, .v .bool, .v .bool, .v (.int .i64), .v .bool, .v (.sl (.int .i64))], .row 89 (.arr 4 .str), .row 101 (.pair (.int .i64) (.arr 4 .str))] }
def c_log_Log_Bytes : Ctr := { k0 := 2, inp := I_log_Log_Bytes, body := fun v => .ret ⟨O_log_Log_Bytes, ((Sp.lBytes (v.1, v.2.1, v.2.2.1, v.2.2.2.1)), v.1, v.2.1, v.2.2.1, v.2.2.2.1, v.2.2.2.2.1, v.2.2.2.2.2.1, v.2.2.2.2.2.2.1, v.2.2.2.2.2.2.2.1, v.2.2.2.2.2.2.2.2.1, v.2.2.2.2.2.2.2.2.2.1, v.2.2.2.2.2.2.2.2.2.2.1, ())⟩, ex := 0 }
def an_log_Log_Bytes : Ann := []
def cx_log_Log_Bytes : Cx := mkCx []
theorem eq_log_Log_Bytes (from_ : Int) (blocks : Int) (b : Str) (sealed : Int) (down : Bool) (armed : Bool) (after : Int) (acut : Bool) (keep : (List Int)) (bs : (List (List Str))) (ws : (List (Int × (List Str)))) (R : ((p : Pat) × p.V) → Prop) : fnVc (cx_log_Log_Bytes) an_log_Log_Bytes 2 Try.f21 I_log_Log_Bytes [O_log_Log_Bytes] (from_, blocks, b, sealed, down, armed, after, acut, keep, bs, ws, ()) R = log_Log_Bytes.vc (fun y0 y1 y2 y3 y4 y5 y6 y7 y8 y9 y10 y11 => R ⟨O_log_Log_Bytes, (y0, y1, y2, y3, y4, y5, y6, y7, y8, y9, y10, y11, ())⟩) from_ blocks b sealed down armed after acut keep bs ws := by kernel_rfl
theorem fs_log_Log_Bytes : CtrsOk Try.prog [] := trivial
theorem vc_log_Log_Bytes (H : Nat → Entry) (v : c_log_Log_Bytes.inp.V) (r : (p : Pat) × p.V) (h : (c_log_Log_Bytes.body v).Sel H r) : fnVc (cx_log_Log_Bytes) an_log_Log_Bytes 2 Try.f21 c_log_Log_Bytes.inp [O_log_Log_Bytes] v (fun r' => r' = r) := by
  obtain ⟨from_, blocks, b, sealed, down, armed, after, acut, keep, bs, ws, ⟨⟩⟩ := v
  obtain rfl := h
  exact Eq.mpr (eq_log_Log_Bytes from_ blocks b sealed down armed after acut keep bs ws _) (log_Log_Bytes.ok _ from_ blocks b sealed down armed after acut keep bs ws  rfl)
theorem ctr_log_Log_Bytes : CtrOk Try.prog 21 c_log_Log_Bytes := ⟨⟨_, Try.func21, by kernel_rfl, by kernel_rfl⟩, fun H v r h => mk_ok _ (fs_log_Log_Bytes) (an := an_log_Log_Bytes) (outs := [O_log_Log_Bytes]) Try.func21 (by decide) (vc_log_Log_Bytes H v r h)⟩
abbrev I_log_Bytes_nil : Pat := { slots := [(0, .ce .nilp)], ents := [] }
abbrev O_log_Bytes_nil : Pat := { slots := [(0, .ce (.v (.int .i64)))], ents := [] }
def c_log_Bytes_nil : Ctr := { k0 := 0, inp := I_log_Bytes_nil, body := fun v => .ret ⟨O_log_Bytes_nil, ((0 : Int), ())⟩, ex := 0 }
def an_log_Bytes_nil : Ann := []
def cx_log_Bytes_nil : Cx := mkCx []
theorem eq_log_Bytes_nil  (R : ((p : Pat) × p.V) → Prop) : fnVc (cx_log_Bytes_nil) an_log_Bytes_nil 0 Try.f21 I_log_Bytes_nil [O_log_Bytes_nil] (()) R = log_Bytes_nil.vc (fun y0 => R ⟨O_log_Bytes_nil, (y0, ())⟩)  := by kernel_rfl
theorem fs_log_Bytes_nil : CtrsOk Try.prog [] := trivial
theorem vc_log_Bytes_nil (H : Nat → Entry) (v : c_log_Bytes_nil.inp.V) (r : (p : Pat) × p.V) (h : (c_log_Bytes_nil.body v).Sel H r) : fnVc (cx_log_Bytes_nil) an_log_Bytes_nil 0 Try.f21 c_log_Bytes_nil.inp [O_log_Bytes_nil] v (fun r' => r' = r) := by
  obtain ⟨⟩ := v
  obtain rfl := h
  exact Eq.mpr (eq_log_Bytes_nil  _) (log_Bytes_nil.ok _   rfl)
theorem ctr_log_Bytes_nil : CtrOk Try.prog 21 c_log_Bytes_nil := ⟨⟨_, Try.func21, by kernel_rfl, by kernel_rfl⟩, fun H v r h => mk_ok _ (fs_log_Bytes_nil) (an := an_log_Bytes_nil) (outs := [O_log_Bytes_nil]) Try.func21 (by decide) (vc_log_Bytes_nil H v r h)⟩
abbrev I_log_Log_Sealed : Pat := { slots := [(0, .ce (.ptr 0 0))], ents := [.box 116 [.ptr 1 0, .v (.int .i64), .v (.int .i64), .v .str, .v (.int .i64)], .box 96 [.os 2, .os 3, .v .bool, .v .bool, .v (.int .i64), .v .bool, .v (.sl (.int .i64))], .row 89 (.arr 4 .str), .row 101 (.pair (.int .i64) (.arr 4 .str))] }
abbrev O_log_Log_Sealed : Pat := { slots := [(0, .ce (.v (.int .i64)))], ents := [.box 116 [.ptr 1 0, .v (.int .i64), .v (.int .i64), .v .str, .v (.int .i64)], .box 96 [.os 2, .os 3, .v .bool, .v .bool, .v (.int .i64), .v .bool, .v (.sl (.int .i64))], .row 89 (.arr 4 .str), .row 101 (.pair (.int .i64) (.arr 4 .str))] }
def c_log_Log_Sealed : Ctr := { k0 := 2, inp := I_log_Log_Sealed, body := fun v => .ret ⟨O_log_Log_Sealed, ((Sp.lSealed (v.1, v.2.1, v.2.2.1, v.2.2.2.1)), v.1, v.2.1, v.2.2.1, v.2.2.2.1, v.2.2.2.2.1, v.2.2.2.2.2.1, v.2.2.2.2.2.2.1, v.2.2.2.2.2.2.2.1, v.2.2.2.2.2.2.2.2.1, v.2.2.2.2.2.2.2.2.2.1, v.2.2.2.2.2.2.2.2.2.2.1, ())⟩, ex := 0 }
def an_log_Log_Sealed : Ann := []
def cx_log_Log_Sealed : Cx := mkCx []
theorem eq_log_Log_Sealed (from_ : Int) (blocks : Int) (b : Str) (sealed : Int) (down : Bool) (armed : Bool) (after : Int) (acut : Bool) (keep : (List Int)) (bs : (List (List Str))) (ws : (List (Int × (List Str)))) (R : ((p : Pat) × p.V) → Prop) : fnVc (cx_log_Log_Sealed) an_log_Log_Sealed 2 Try.f20 I_log_Log_Sealed [O_log_Log_Sealed] (from_, blocks, b, sealed, down, armed, after, acut, keep, bs, ws, ()) R = log_Log_Sealed.vc (fun y0 y1 y2 y3 y4 y5 y6 y7 y8 y9 y10 y11 => R ⟨O_log_Log_Sealed, (y0, y1, y2, y3, y4, y5, y6, y7, y8, y9, y10, y11, ())⟩) from_ blocks b sealed down armed after acut keep bs ws := by kernel_rfl
theorem fs_log_Log_Sealed : CtrsOk Try.prog [] := trivial
theorem vc_log_Log_Sealed (H : Nat → Entry) (v : c_log_Log_Sealed.inp.V) (r : (p : Pat) × p.V) (h : (c_log_Log_Sealed.body v).Sel H r) : fnVc (cx_log_Log_Sealed) an_log_Log_Sealed 2 Try.f20 c_log_Log_Sealed.inp [O_log_Log_Sealed] v (fun r' => r' = r) := by
  obtain ⟨from_, blocks, b, sealed, down, armed, after, acut, keep, bs, ws, ⟨⟩⟩ := v
  obtain rfl := h
  exact Eq.mpr (eq_log_Log_Sealed from_ blocks b sealed down armed after acut keep bs ws _) (log_Log_Sealed.ok _ from_ blocks b sealed down armed after acut keep bs ws  rfl)
theorem ctr_log_Log_Sealed : CtrOk Try.prog 20 c_log_Log_Sealed := ⟨⟨_, Try.func20, by kernel_rfl, by kernel_rfl⟩, fun H v r h => mk_ok _ (fs_log_Log_Sealed) (an := an_log_Log_Sealed) (outs := [O_log_Log_Sealed]) Try.func20 (by decide) (vc_log_Log_Sealed H v r h)⟩
abbrev I_log_Sealed_nil : Pat := { slots := [(0, .ce .nilp)], ents := [] }
abbrev O_log_Sealed_nil : Pat := { slots := [(0, .ce (.v (.int .i64)))], ents := [] }
def c_log_Sealed_nil : Ctr := { k0 := 0, inp := I_log_Sealed_nil, body := fun v => .ret ⟨O_log_Sealed_nil, ((0 : Int), ())⟩, ex := 0 }
def an_log_Sealed_nil : Ann := []
def cx_log_Sealed_nil : Cx := mkCx []
theorem eq_log_Sealed_nil  (R : ((p : Pat) × p.V) → Prop) : fnVc (cx_log_Sealed_nil) an_log_Sealed_nil 0 Try.f20 I_log_Sealed_nil [O_log_Sealed_nil] (()) R = log_Sealed_nil.vc (fun y0 => R ⟨O_log_Sealed_nil, (y0, ())⟩)  := by kernel_rfl
theorem fs_log_Sealed_nil : CtrsOk Try.prog [] := trivial
theorem vc_log_Sealed_nil (H : Nat → Entry) (v : c_log_Sealed_nil.inp.V) (r : (p : Pat) × p.V) (h : (c_log_Sealed_nil.body v).Sel H r) : fnVc (cx_log_Sealed_nil) an_log_Sealed_nil 0 Try.f20 c_log_Sealed_nil.inp [O_log_Sealed_nil] v (fun r' => r' = r) := by
  obtain ⟨⟩ := v
  obtain rfl := h
  exact Eq.mpr (eq_log_Sealed_nil  _) (log_Sealed_nil.ok _   rfl)
theorem ctr_log_Sealed_nil : CtrOk Try.prog 20 c_log_Sealed_nil := ⟨⟨_, Try.func20, by kernel_rfl, by kernel_rfl⟩, fun H v r h => mk_ok _ (fs_log_Sealed_nil) (an := an_log_Sealed_nil) (outs := [O_log_Sealed_nil]) Try.func20 (by decide) (vc_log_Sealed_nil H v r h)⟩
abbrev I_log_Log_Room : Pat := { slots := [(0, .ce (.ptr 0 0))], ents := [.box 116 [.ptr 1 0, .v (.int .i64), .v (.int .i64), .v .str, .v (.int .i64)], .box 96 [.os 2, .os 3, .v .bool, .v .bool, .v (.int .i64), .v .bool, .v (.sl (.int .i64))], .row 89 (.arr 4 .str), .row 101 (.pair (.int .i64) (.arr 4 .str))] }
abbrev O_log_Log_Room : Pat := { slots := [(0, .ce (.v (.int .i64)))], ents := [.box 116 [.ptr 1 0, .v (.int .i64), .v (.int .i64), .v .str, .v (.int .i64)], .box 96 [.os 2, .os 3, .v .bool, .v .bool, .v (.int .i64), .v .bool, .v (.sl (.int .i64))], .row 89 (.arr 4 .str), .row 101 (.pair (.int .i64) (.arr 4 .str))] }
def c_log_Log_Room : Ctr := { k0 := 2, inp := I_log_Log_Room, body := fun v => .need (Sp.lOk (v.1, v.2.1, v.2.2.1, v.2.2.2.1)) (.ret ⟨O_log_Log_Room, ((Sp.lRoom (v.1, v.2.1, v.2.2.1, v.2.2.2.1)), v.1, v.2.1, v.2.2.1, v.2.2.2.1, v.2.2.2.2.1, v.2.2.2.2.2.1, v.2.2.2.2.2.2.1, v.2.2.2.2.2.2.2.1, v.2.2.2.2.2.2.2.2.1, v.2.2.2.2.2.2.2.2.2.1, v.2.2.2.2.2.2.2.2.2.2.1, ())⟩), ex := 0 }
def an_log_Log_Room : Ann := []
def cx_log_Log_Room : Cx := mkCx []
theorem eq_log_Log_Room (from_ : Int) (blocks : Int) (b : Str) (sealed : Int) (down : Bool) (armed : Bool) (after : Int) (acut : Bool) (keep : (List Int)) (bs : (List (List Str))) (ws : (List (Int × (List Str)))) (R : ((p : Pat) × p.V) → Prop) : fnVc (cx_log_Log_Room) an_log_Log_Room 2 Try.f22 I_log_Log_Room [O_log_Log_Room] (from_, blocks, b, sealed, down, armed, after, acut, keep, bs, ws, ()) R = log_Log_Room.vc (fun y0 y1 y2 y3 y4 y5 y6 y7 y8 y9 y10 y11 => R ⟨O_log_Log_Room, (y0, y1, y2, y3, y4, y5, y6, y7, y8, y9, y10, y11, ())⟩) from_ blocks b sealed down armed after acut keep bs ws := by kernel_rfl
theorem fs_log_Log_Room : CtrsOk Try.prog [] := trivial
theorem vc_log_Log_Room (H : Nat → Entry) (v : c_log_Log_Room.inp.V) (r : (p : Pat) × p.V) (h : (c_log_Log_Room.body v).Sel H r) : fnVc (cx_log_Log_Room) an_log_Log_Room 2 Try.f22 c_log_Log_Room.inp [O_log_Log_Room] v (fun r' => r' = r) := by
  obtain ⟨from_, blocks, b, sealed, down, armed, after, acut, keep, bs, ws, ⟨⟩⟩ := v
  obtain ⟨h, rfl⟩ := h
  exact Eq.mpr (eq_log_Log_Room from_ blocks b sealed down armed after acut keep bs ws _) (log_Log_Room.ok _ from_ blocks b sealed down armed after acut keep bs ws h rfl)
theorem ctr_log_Log_Room : CtrOk Try.prog 22 c_log_Log_Room := ⟨⟨_, Try.func22, by kernel_rfl, by kernel_rfl⟩, fun H v r h => mk_ok _ (fs_log_Log_Room) (an := an_log_Log_Room) (outs := [O_log_Log_Room]) Try.func22 (by decide) (vc_log_Log_Room H v r h)⟩
abbrev I_log_Room_nil : Pat := { slots := [(0, .ce .nilp)], ents := [] }
abbrev O_log_Room_nil : Pat := { slots := [(0, .ce (.v (.int .i64)))], ents := [] }
def c_log_Room_nil : Ctr := { k0 := 0, inp := I_log_Room_nil, body := fun v => .ret ⟨O_log_Room_nil, ((0 : Int), ())⟩, ex := 0 }
def an_log_Room_nil : Ann := []
def cx_log_Room_nil : Cx := mkCx []
theorem eq_log_Room_nil  (R : ((p : Pat) × p.V) → Prop) : fnVc (cx_log_Room_nil) an_log_Room_nil 0 Try.f22 I_log_Room_nil [O_log_Room_nil] (()) R = log_Room_nil.vc (fun y0 => R ⟨O_log_Room_nil, (y0, ())⟩)  := by kernel_rfl
theorem fs_log_Room_nil : CtrsOk Try.prog [] := trivial
theorem vc_log_Room_nil (H : Nat → Entry) (v : c_log_Room_nil.inp.V) (r : (p : Pat) × p.V) (h : (c_log_Room_nil.body v).Sel H r) : fnVc (cx_log_Room_nil) an_log_Room_nil 0 Try.f22 c_log_Room_nil.inp [O_log_Room_nil] v (fun r' => r' = r) := by
  obtain ⟨⟩ := v
  obtain rfl := h
  exact Eq.mpr (eq_log_Room_nil  _) (log_Room_nil.ok _   rfl)
theorem ctr_log_Room_nil : CtrOk Try.prog 22 c_log_Room_nil := ⟨⟨_, Try.func22, by kernel_rfl, by kernel_rfl⟩, fun H v r h => mk_ok _ (fs_log_Room_nil) (an := an_log_Room_nil) (outs := [O_log_Room_nil]) Try.func22 (by decide) (vc_log_Room_nil H v r h)⟩
abbrev I_log_Log_Add : Pat := { slots := [(0, .ce (.ptr 0 0)), (1, .ce (.v .str))], ents := [.box 116 [.ptr 1 0, .v (.int .i64), .v (.int .i64), .v .str, .v (.int .i64)], .box 96 [.os 2, .os 3, .v .bool, .v .bool, .v (.int .i64), .v .bool, .v (.sl (.int .i64))], .row 89 (.arr 4 .str), .row 101 (.pair (.int .i64) (.arr 4 .str))] }
abbrev O_log_Log_Add : Pat := { slots := [(0, .ce (.v (.int .i64)))], ents := [.box 116 [.ptr 1 0, .v (.int .i64), .v (.int .i64), .v .str, .v (.int .i64)], .box 96 [.os 2, .os 3, .v .bool, .v .bool, .v (.int .i64), .v .bool, .v (.sl (.int .i64))], .row 89 (.arr 4 .str), .row 101 (.pair (.int .i64) (.arr 4 .str))] }
def c_log_Log_Add : Ctr := { k0 := 2, inp := I_log_Log_Add, body := fun v => .need (Sp.lOk (v.2.1, v.2.2.1, v.2.2.2.1, v.2.2.2.2.1)) (.ret ⟨O_log_Log_Add, ((Sp.lAdd v.1 (v.2.1, v.2.2.1, v.2.2.2.1, v.2.2.2.2.1)).2, (Sp.lAdd v.1 (v.2.1, v.2.2.1, v.2.2.2.1, v.2.2.2.2.1)).1.1, (Sp.lAdd v.1 (v.2.1, v.2.2.1, v.2.2.2.1, v.2.2.2.2.1)).1.2.1, (Sp.lAdd v.1 (v.2.1, v.2.2.1, v.2.2.2.1, v.2.2.2.2.1)).1.2.2.1, (Sp.lAdd v.1 (v.2.1, v.2.2.1, v.2.2.2.1, v.2.2.2.2.1)).1.2.2.2, v.2.2.2.2.2.1, v.2.2.2.2.2.2.1, v.2.2.2.2.2.2.2.1, v.2.2.2.2.2.2.2.2.1, v.2.2.2.2.2.2.2.2.2.1, v.2.2.2.2.2.2.2.2.2.2.1, v.2.2.2.2.2.2.2.2.2.2.2.1, ())⟩), ex := 0 }
def an_log_Log_Add : Ann := []
def cx_log_Log_Add : Cx := mkCx [(66, [c_quill_Text]), (22, [c_log_Log_Room, c_log_Room_nil])]
theorem eq_log_Log_Add (s : Str) (from_ : Int) (blocks : Int) (b : Str) (sealed : Int) (down : Bool) (armed : Bool) (after : Int) (acut : Bool) (keep : (List Int)) (bs : (List (List Str))) (ws : (List (Int × (List Str)))) (R : ((p : Pat) × p.V) → Prop) : fnVc (cx_log_Log_Add) an_log_Log_Add 2 Try.f24 I_log_Log_Add [O_log_Log_Add] (s, from_, blocks, b, sealed, down, armed, after, acut, keep, bs, ws, ()) R = log_Log_Add.vc (fun y0 y1 y2 y3 y4 y5 y6 y7 y8 y9 y10 y11 => R ⟨O_log_Log_Add, (y0, y1, y2, y3, y4, y5, y6, y7, y8, y9, y10, y11, ())⟩) s from_ blocks b sealed down armed after acut keep bs ws := by kernel_rfl
theorem fs_log_Log_Add : CtrsOk Try.prog [(66, [c_quill_Text]), (22, [c_log_Log_Room, c_log_Room_nil])] := ⟨ctr1 (ctr_quill_Text), (ctrC (ctr_log_Log_Room) (ctr1 (ctr_log_Room_nil))), trivial⟩
theorem vc_log_Log_Add (H : Nat → Entry) (v : c_log_Log_Add.inp.V) (r : (p : Pat) × p.V) (h : (c_log_Log_Add.body v).Sel H r) : fnVc (cx_log_Log_Add) an_log_Log_Add 2 Try.f24 c_log_Log_Add.inp [O_log_Log_Add] v (fun r' => r' = r) := by
  obtain ⟨s, from_, blocks, b, sealed, down, armed, after, acut, keep, bs, ws, ⟨⟩⟩ := v
  obtain ⟨h, rfl⟩ := h
  exact Eq.mpr (eq_log_Log_Add s from_ blocks b sealed down armed after acut keep bs ws _) (log_Log_Add.ok _ s from_ blocks b sealed down armed after acut keep bs ws h rfl)
theorem ctr_log_Log_Add : CtrOk Try.prog 24 c_log_Log_Add := ⟨⟨_, Try.func24, by kernel_rfl, by kernel_rfl⟩, fun H v r h => mk_ok _ (fs_log_Log_Add) (an := an_log_Log_Add) (outs := [O_log_Log_Add]) Try.func24 (by decide) (vc_log_Log_Add H v r h)⟩
abbrev I_log_Add_nil : Pat := { slots := [(0, .ce .nilp), (1, .ce (.v .str))], ents := [] }
abbrev O_log_Add_nil : Pat := { slots := [(0, .ce (.v (.int .i64)))], ents := [] }
def c_log_Add_nil : Ctr := { k0 := 0, inp := I_log_Add_nil, body := fun v => .ret ⟨O_log_Add_nil, ((7 : Int), ())⟩, ex := 0 }
def an_log_Add_nil : Ann := []
def cx_log_Add_nil : Cx := mkCx [(66, [c_quill_Text]), (22, [c_log_Log_Room, c_log_Room_nil])]
theorem eq_log_Add_nil (s : Str) (R : ((p : Pat) × p.V) → Prop) : fnVc (cx_log_Add_nil) an_log_Add_nil 0 Try.f24 I_log_Add_nil [O_log_Add_nil] (s, ()) R = log_Add_nil.vc (fun y0 => R ⟨O_log_Add_nil, (y0, ())⟩) s := by kernel_rfl
theorem fs_log_Add_nil : CtrsOk Try.prog [(66, [c_quill_Text]), (22, [c_log_Log_Room, c_log_Room_nil])] := ⟨ctr1 (ctr_quill_Text), (ctrC (ctr_log_Log_Room) (ctr1 (ctr_log_Room_nil))), trivial⟩
theorem vc_log_Add_nil (H : Nat → Entry) (v : c_log_Add_nil.inp.V) (r : (p : Pat) × p.V) (h : (c_log_Add_nil.body v).Sel H r) : fnVc (cx_log_Add_nil) an_log_Add_nil 0 Try.f24 c_log_Add_nil.inp [O_log_Add_nil] v (fun r' => r' = r) := by
  obtain ⟨s, ⟨⟩⟩ := v
  obtain rfl := h
  exact Eq.mpr (eq_log_Add_nil s _) (log_Add_nil.ok _ s  rfl)
theorem ctr_log_Add_nil : CtrOk Try.prog 24 c_log_Add_nil := ⟨⟨_, Try.func24, by kernel_rfl, by kernel_rfl⟩, fun H v r h => mk_ok _ (fs_log_Add_nil) (an := an_log_Add_nil) (outs := [O_log_Add_nil]) Try.func24 (by decide) (vc_log_Add_nil H v r h)⟩
abbrev I_log_Log_Write : Pat := { slots := [(0, .ce (.ptr 0 0))], ents := [.box 116 [.ptr 1 0, .v (.int .i64), .v (.int .i64), .v .str, .v (.int .i64)], .box 96 [.os 2, .os 3, .v .bool, .v .bool, .v (.int .i64), .v .bool, .v (.sl (.int .i64))], .row 89 (.arr 4 .str), .row 101 (.pair (.int .i64) (.arr 4 .str))] }
abbrev O_log_Log_Write : Pat := { slots := [(0, .ce (.v (.int .i64)))], ents := [.box 116 [.ptr 1 0, .v (.int .i64), .v (.int .i64), .v .str, .v (.int .i64)], .box 96 [.os 2, .os 3, .v .bool, .v .bool, .v (.int .i64), .v .bool, .v (.sl (.int .i64))], .row 89 (.arr 4 .str), .row 101 (.pair (.int .i64) (.arr 4 .str))] }
def c_log_Log_Write : Ctr := { k0 := 2, inp := I_log_Log_Write, body := fun v => .need (Sp.lPre (v.1, v.2.1, v.2.2.1, v.2.2.2.1) (v.2.2.2.2.1, v.2.2.2.2.2.1, v.2.2.2.2.2.2.1, v.2.2.2.2.2.2.2.1, v.2.2.2.2.2.2.2.2.1, v.2.2.2.2.2.2.2.2.2.1, v.2.2.2.2.2.2.2.2.2.2.1)) (.ret ⟨O_log_Log_Write, ((Sp.lWrite (v.1, v.2.1, v.2.2.1, v.2.2.2.1) (v.2.2.2.2.1, v.2.2.2.2.2.1, v.2.2.2.2.2.2.1, v.2.2.2.2.2.2.2.1, v.2.2.2.2.2.2.2.2.1, v.2.2.2.2.2.2.2.2.2.1, v.2.2.2.2.2.2.2.2.2.2.1)).2, v.1, v.2.1, v.2.2.1, v.2.2.2.1, (Sp.lWrite (v.1, v.2.1, v.2.2.1, v.2.2.2.1) (v.2.2.2.2.1, v.2.2.2.2.2.1, v.2.2.2.2.2.2.1, v.2.2.2.2.2.2.2.1, v.2.2.2.2.2.2.2.2.1, v.2.2.2.2.2.2.2.2.2.1, v.2.2.2.2.2.2.2.2.2.2.1)).1.1, (Sp.lWrite (v.1, v.2.1, v.2.2.1, v.2.2.2.1) (v.2.2.2.2.1, v.2.2.2.2.2.1, v.2.2.2.2.2.2.1, v.2.2.2.2.2.2.2.1, v.2.2.2.2.2.2.2.2.1, v.2.2.2.2.2.2.2.2.2.1, v.2.2.2.2.2.2.2.2.2.2.1)).1.2.1, (Sp.lWrite (v.1, v.2.1, v.2.2.1, v.2.2.2.1) (v.2.2.2.2.1, v.2.2.2.2.2.1, v.2.2.2.2.2.2.1, v.2.2.2.2.2.2.2.1, v.2.2.2.2.2.2.2.2.1, v.2.2.2.2.2.2.2.2.2.1, v.2.2.2.2.2.2.2.2.2.2.1)).1.2.2.1, (Sp.lWrite (v.1, v.2.1, v.2.2.1, v.2.2.2.1) (v.2.2.2.2.1, v.2.2.2.2.2.1, v.2.2.2.2.2.2.1, v.2.2.2.2.2.2.2.1, v.2.2.2.2.2.2.2.2.1, v.2.2.2.2.2.2.2.2.2.1, v.2.2.2.2.2.2.2.2.2.2.1)).1.2.2.2.1, (Sp.lWrite (v.1, v.2.1, v.2.2.1, v.2.2.2.1) (v.2.2.2.2.1, v.2.2.2.2.2.1, v.2.2.2.2.2.2.1, v.2.2.2.2.2.2.2.1, v.2.2.2.2.2.2.2.2.1, v.2.2.2.2.2.2.2.2.2.1, v.2.2.2.2.2.2.2.2.2.2.1)).1.2.2.2.2.1, (Sp.lWrite (v.1, v.2.1, v.2.2.1, v.2.2.2.1) (v.2.2.2.2.1, v.2.2.2.2.2.1, v.2.2.2.2.2.2.1, v.2.2.2.2.2.2.2.1, v.2.2.2.2.2.2.2.2.1, v.2.2.2.2.2.2.2.2.2.1, v.2.2.2.2.2.2.2.2.2.2.1)).1.2.2.2.2.2.1, (Sp.lWrite (v.1, v.2.1, v.2.2.1, v.2.2.2.1) (v.2.2.2.2.1, v.2.2.2.2.2.1, v.2.2.2.2.2.2.1, v.2.2.2.2.2.2.2.1, v.2.2.2.2.2.2.2.2.1, v.2.2.2.2.2.2.2.2.2.1, v.2.2.2.2.2.2.2.2.2.2.1)).1.2.2.2.2.2.2, ())⟩), ex := 0 }
def an_log_Log_Write : Ann := [(4, { slots := [(0, .ce (.ptr 0 0)), (3, .ce (.v (.int .i64)))], ents := [.box 116 [.ptr 1 0, .v (.int .i64), .v (.int .i64), .v .str, .v (.int .i64)], .box 96 [.os 2, .os 3, .v .bool, .v .bool, .v (.int .i64), .v .bool, .v (.sl (.int .i64))], .row 89 (.arr 4 .str), .row 101 (.pair (.int .i64) (.arr 4 .str))] })]
def cx_log_Log_Write : Cx := mkCx [(57, [c_log_blocksOf]), (50, [c_strings_Repeat]), (14, [c_disk_Disk_Write, c_disk_Write_nil])]
theorem eq_log_Log_Write (from_ : Int) (blocks : Int) (b : Str) (sealed : Int) (down : Bool) (armed : Bool) (after : Int) (acut : Bool) (keep : (List Int)) (bs : (List (List Str))) (ws : (List (Int × (List Str)))) (R : ((p : Pat) × p.V) → Prop) : fnVc (cx_log_Log_Write) an_log_Log_Write 2 Try.f27 I_log_Log_Write [O_log_Log_Write] (from_, blocks, b, sealed, down, armed, after, acut, keep, bs, ws, ()) R = log_Log_Write.vc (fun y0 y1 y2 y3 y4 y5 y6 y7 y8 y9 y10 y11 => R ⟨O_log_Log_Write, (y0, y1, y2, y3, y4, y5, y6, y7, y8, y9, y10, y11, ())⟩) from_ blocks b sealed down armed after acut keep bs ws := by kernel_rfl
theorem fs_log_Log_Write : CtrsOk Try.prog [(57, [c_log_blocksOf]), (50, [c_strings_Repeat]), (14, [c_disk_Disk_Write, c_disk_Write_nil])] := ⟨ctr1 (ctr_log_blocksOf), ctr1 (ctr_strings_Repeat), (ctrC (ctr_disk_Disk_Write) (ctr1 (ctr_disk_Write_nil))), trivial⟩
theorem vc_log_Log_Write (H : Nat → Entry) (v : c_log_Log_Write.inp.V) (r : (p : Pat) × p.V) (h : (c_log_Log_Write.body v).Sel H r) : fnVc (cx_log_Log_Write) an_log_Log_Write 2 Try.f27 c_log_Log_Write.inp [O_log_Log_Write] v (fun r' => r' = r) := by
  obtain ⟨from_, blocks, b, sealed, down, armed, after, acut, keep, bs, ws, ⟨⟩⟩ := v
  obtain ⟨h, rfl⟩ := h
  exact Eq.mpr (eq_log_Log_Write from_ blocks b sealed down armed after acut keep bs ws _) (log_Log_Write.ok _ from_ blocks b sealed down armed after acut keep bs ws h rfl)
theorem ctr_log_Log_Write : CtrOk Try.prog 27 c_log_Log_Write := ⟨⟨_, Try.func27, by kernel_rfl, by kernel_rfl⟩, fun H v r h => mk_ok _ (fs_log_Log_Write) (an := an_log_Log_Write) (outs := [O_log_Log_Write]) Try.func27 (by decide) (vc_log_Log_Write H v r h)⟩
abbrev I_log_Write_nil : Pat := { slots := [(0, .ce .nilp)], ents := [] }
abbrev O_log_Write_nil : Pat := { slots := [(0, .ce (.v (.int .i64)))], ents := [] }
def c_log_Write_nil : Ctr := { k0 := 0, inp := I_log_Write_nil, body := fun v => .ret ⟨O_log_Write_nil, ((7 : Int), ())⟩, ex := 0 }
def an_log_Write_nil : Ann := [(4, { slots := [(0, .ce (.ptr 0 0)), (3, .ce (.v (.int .i64)))], ents := [.box 116 [.ptr 1 0, .v (.int .i64), .v (.int .i64), .v .str, .v (.int .i64)], .box 96 [.os 2, .os 3, .v .bool, .v .bool, .v (.int .i64), .v .bool, .v (.sl (.int .i64))], .row 89 (.arr 4 .str), .row 101 (.pair (.int .i64) (.arr 4 .str))] })]
def cx_log_Write_nil : Cx := mkCx [(57, [c_log_blocksOf]), (50, [c_strings_Repeat]), (14, [c_disk_Disk_Write, c_disk_Write_nil])]
theorem eq_log_Write_nil  (R : ((p : Pat) × p.V) → Prop) : fnVc (cx_log_Write_nil) an_log_Write_nil 0 Try.f27 I_log_Write_nil [O_log_Write_nil] (()) R = log_Write_nil.vc (fun y0 => R ⟨O_log_Write_nil, (y0, ())⟩)  := by kernel_rfl
theorem fs_log_Write_nil : CtrsOk Try.prog [(57, [c_log_blocksOf]), (50, [c_strings_Repeat]), (14, [c_disk_Disk_Write, c_disk_Write_nil])] := ⟨ctr1 (ctr_log_blocksOf), ctr1 (ctr_strings_Repeat), (ctrC (ctr_disk_Disk_Write) (ctr1 (ctr_disk_Write_nil))), trivial⟩
theorem vc_log_Write_nil (H : Nat → Entry) (v : c_log_Write_nil.inp.V) (r : (p : Pat) × p.V) (h : (c_log_Write_nil.body v).Sel H r) : fnVc (cx_log_Write_nil) an_log_Write_nil 0 Try.f27 c_log_Write_nil.inp [O_log_Write_nil] v (fun r' => r' = r) := by
  obtain ⟨⟩ := v
  obtain rfl := h
  exact Eq.mpr (eq_log_Write_nil  _) (log_Write_nil.ok _   rfl)
theorem ctr_log_Write_nil : CtrOk Try.prog 27 c_log_Write_nil := ⟨⟨_, Try.func27, by kernel_rfl, by kernel_rfl⟩, fun H v r h => mk_ok _ (fs_log_Write_nil) (an := an_log_Write_nil) (outs := [O_log_Write_nil]) Try.func27 (by decide) (vc_log_Write_nil H v r h)⟩
abbrev I_log_Log_Seal : Pat := { slots := [(0, .ce (.ptr 0 0))], ents := [.box 116 [.ptr 1 0, .v (.int .i64), .v (.int .i64), .v .str, .v (.int .i64)], .box 96 [.os 2, .os 3, .v .bool, .v .bool, .v (.int .i64), .v .bool, .v (.sl (.int .i64))], .row 89 (.arr 4 .str), .row 101 (.pair (.int .i64) (.arr 4 .str))] }
abbrev O_log_Log_Seal : Pat := { slots := [], ents := [.box 116 [.ptr 1 0, .v (.int .i64), .v (.int .i64), .v .str, .v (.int .i64)], .box 96 [.os 2, .os 3, .v .bool, .v .bool, .v (.int .i64), .v .bool, .v (.sl (.int .i64))], .row 89 (.arr 4 .str), .row 101 (.pair (.int .i64) (.arr 4 .str))] }
def c_log_Log_Seal : Ctr := { k0 := 2, inp := I_log_Log_Seal, body := fun v => .ret ⟨O_log_Log_Seal, ((Sp.lSeal (v.1, v.2.1, v.2.2.1, v.2.2.2.1)).1, (Sp.lSeal (v.1, v.2.1, v.2.2.1, v.2.2.2.1)).2.1, (Sp.lSeal (v.1, v.2.1, v.2.2.1, v.2.2.2.1)).2.2.1, (Sp.lSeal (v.1, v.2.1, v.2.2.1, v.2.2.2.1)).2.2.2, v.2.2.2.2.1, v.2.2.2.2.2.1, v.2.2.2.2.2.2.1, v.2.2.2.2.2.2.2.1, v.2.2.2.2.2.2.2.2.1, v.2.2.2.2.2.2.2.2.2.1, v.2.2.2.2.2.2.2.2.2.2.1, ())⟩, ex := 0 }
def an_log_Log_Seal : Ann := []
def cx_log_Log_Seal : Cx := mkCx []
theorem eq_log_Log_Seal (from_ : Int) (blocks : Int) (b : Str) (sealed : Int) (down : Bool) (armed : Bool) (after : Int) (acut : Bool) (keep : (List Int)) (bs : (List (List Str))) (ws : (List (Int × (List Str)))) (R : ((p : Pat) × p.V) → Prop) : fnVc (cx_log_Log_Seal) an_log_Log_Seal 2 Try.f25 I_log_Log_Seal [O_log_Log_Seal] (from_, blocks, b, sealed, down, armed, after, acut, keep, bs, ws, ()) R = log_Log_Seal.vc (fun y0 y1 y2 y3 y4 y5 y6 y7 y8 y9 y10 => R ⟨O_log_Log_Seal, (y0, y1, y2, y3, y4, y5, y6, y7, y8, y9, y10, ())⟩) from_ blocks b sealed down armed after acut keep bs ws := by kernel_rfl
theorem fs_log_Log_Seal : CtrsOk Try.prog [] := trivial
theorem vc_log_Log_Seal (H : Nat → Entry) (v : c_log_Log_Seal.inp.V) (r : (p : Pat) × p.V) (h : (c_log_Log_Seal.body v).Sel H r) : fnVc (cx_log_Log_Seal) an_log_Log_Seal 2 Try.f25 c_log_Log_Seal.inp [O_log_Log_Seal] v (fun r' => r' = r) := by
  obtain ⟨from_, blocks, b, sealed, down, armed, after, acut, keep, bs, ws, ⟨⟩⟩ := v
  obtain rfl := h
  exact Eq.mpr (eq_log_Log_Seal from_ blocks b sealed down armed after acut keep bs ws _) (log_Log_Seal.ok _ from_ blocks b sealed down armed after acut keep bs ws  rfl)
theorem ctr_log_Log_Seal : CtrOk Try.prog 25 c_log_Log_Seal := ⟨⟨_, Try.func25, by kernel_rfl, by kernel_rfl⟩, fun H v r h => mk_ok _ (fs_log_Log_Seal) (an := an_log_Log_Seal) (outs := [O_log_Log_Seal]) Try.func25 (by decide) (vc_log_Log_Seal H v r h)⟩
abbrev I_log_Seal_nil : Pat := { slots := [(0, .ce .nilp)], ents := [] }
abbrev O_log_Seal_nil : Pat := { slots := [], ents := [] }
def c_log_Seal_nil : Ctr := { k0 := 0, inp := I_log_Seal_nil, body := fun v => .ret ⟨O_log_Seal_nil, (())⟩, ex := 0 }
def an_log_Seal_nil : Ann := []
def cx_log_Seal_nil : Cx := mkCx []
theorem eq_log_Seal_nil  (R : ((p : Pat) × p.V) → Prop) : fnVc (cx_log_Seal_nil) an_log_Seal_nil 0 Try.f25 I_log_Seal_nil [O_log_Seal_nil] (()) R = log_Seal_nil.vc (R ⟨O_log_Seal_nil, ()⟩)  := by kernel_rfl
theorem fs_log_Seal_nil : CtrsOk Try.prog [] := trivial
theorem vc_log_Seal_nil (H : Nat → Entry) (v : c_log_Seal_nil.inp.V) (r : (p : Pat) × p.V) (h : (c_log_Seal_nil.body v).Sel H r) : fnVc (cx_log_Seal_nil) an_log_Seal_nil 0 Try.f25 c_log_Seal_nil.inp [O_log_Seal_nil] v (fun r' => r' = r) := by
  obtain ⟨⟩ := v
  obtain rfl := h
  exact Eq.mpr (eq_log_Seal_nil  _) (log_Seal_nil.ok _   rfl)
theorem ctr_log_Seal_nil : CtrOk Try.prog 25 c_log_Seal_nil := ⟨⟨_, Try.func25, by kernel_rfl, by kernel_rfl⟩, fun H v r h => mk_ok _ (fs_log_Seal_nil) (an := an_log_Seal_nil) (outs := [O_log_Seal_nil]) Try.func25 (by decide) (vc_log_Seal_nil H v r h)⟩
abbrev I_log_Log_Drop : Pat := { slots := [(0, .ce (.ptr 0 0))], ents := [.box 116 [.ptr 1 0, .v (.int .i64), .v (.int .i64), .v .str, .v (.int .i64)], .box 96 [.os 2, .os 3, .v .bool, .v .bool, .v (.int .i64), .v .bool, .v (.sl (.int .i64))], .row 89 (.arr 4 .str), .row 101 (.pair (.int .i64) (.arr 4 .str))] }
abbrev O_log_Log_Drop : Pat := { slots := [], ents := [.box 116 [.ptr 1 0, .v (.int .i64), .v (.int .i64), .v .str, .v (.int .i64)], .box 96 [.os 2, .os 3, .v .bool, .v .bool, .v (.int .i64), .v .bool, .v (.sl (.int .i64))], .row 89 (.arr 4 .str), .row 101 (.pair (.int .i64) (.arr 4 .str))] }
def c_log_Log_Drop : Ctr := { k0 := 2, inp := I_log_Log_Drop, body := fun v => .need (Sp.lOk (v.1, v.2.1, v.2.2.1, v.2.2.2.1)) (.ret ⟨O_log_Log_Drop, ((Sp.lDrop (v.1, v.2.1, v.2.2.1, v.2.2.2.1)).1, (Sp.lDrop (v.1, v.2.1, v.2.2.1, v.2.2.2.1)).2.1, (Sp.lDrop (v.1, v.2.1, v.2.2.1, v.2.2.2.1)).2.2.1, (Sp.lDrop (v.1, v.2.1, v.2.2.1, v.2.2.2.1)).2.2.2, v.2.2.2.2.1, v.2.2.2.2.2.1, v.2.2.2.2.2.2.1, v.2.2.2.2.2.2.2.1, v.2.2.2.2.2.2.2.2.1, v.2.2.2.2.2.2.2.2.2.1, v.2.2.2.2.2.2.2.2.2.2.1, ())⟩), ex := 0 }
def an_log_Log_Drop : Ann := []
def cx_log_Log_Drop : Cx := mkCx []
theorem eq_log_Log_Drop (from_ : Int) (blocks : Int) (b : Str) (sealed : Int) (down : Bool) (armed : Bool) (after : Int) (acut : Bool) (keep : (List Int)) (bs : (List (List Str))) (ws : (List (Int × (List Str)))) (R : ((p : Pat) × p.V) → Prop) : fnVc (cx_log_Log_Drop) an_log_Log_Drop 2 Try.f26 I_log_Log_Drop [O_log_Log_Drop] (from_, blocks, b, sealed, down, armed, after, acut, keep, bs, ws, ()) R = log_Log_Drop.vc (fun y0 y1 y2 y3 y4 y5 y6 y7 y8 y9 y10 => R ⟨O_log_Log_Drop, (y0, y1, y2, y3, y4, y5, y6, y7, y8, y9, y10, ())⟩) from_ blocks b sealed down armed after acut keep bs ws := by kernel_rfl
theorem fs_log_Log_Drop : CtrsOk Try.prog [] := trivial
theorem vc_log_Log_Drop (H : Nat → Entry) (v : c_log_Log_Drop.inp.V) (r : (p : Pat) × p.V) (h : (c_log_Log_Drop.body v).Sel H r) : fnVc (cx_log_Log_Drop) an_log_Log_Drop 2 Try.f26 c_log_Log_Drop.inp [O_log_Log_Drop] v (fun r' => r' = r) := by
  obtain ⟨from_, blocks, b, sealed, down, armed, after, acut, keep, bs, ws, ⟨⟩⟩ := v
  obtain ⟨h, rfl⟩ := h
  exact Eq.mpr (eq_log_Log_Drop from_ blocks b sealed down armed after acut keep bs ws _) (log_Log_Drop.ok _ from_ blocks b sealed down armed after acut keep bs ws h rfl)
theorem ctr_log_Log_Drop : CtrOk Try.prog 26 c_log_Log_Drop := ⟨⟨_, Try.func26, by kernel_rfl, by kernel_rfl⟩, fun H v r h => mk_ok _ (fs_log_Log_Drop) (an := an_log_Log_Drop) (outs := [O_log_Log_Drop]) Try.func26 (by decide) (vc_log_Log_Drop H v r h)⟩
abbrev I_log_Drop_nil : Pat := { slots := [(0, .ce .nilp)], ents := [] }
abbrev O_log_Drop_nil : Pat := { slots := [], ents := [] }
def c_log_Drop_nil : Ctr := { k0 := 0, inp := I_log_Drop_nil, body := fun v => .ret ⟨O_log_Drop_nil, (())⟩, ex := 0 }
def an_log_Drop_nil : Ann := []
def cx_log_Drop_nil : Cx := mkCx []
theorem eq_log_Drop_nil  (R : ((p : Pat) × p.V) → Prop) : fnVc (cx_log_Drop_nil) an_log_Drop_nil 0 Try.f26 I_log_Drop_nil [O_log_Drop_nil] (()) R = log_Drop_nil.vc (R ⟨O_log_Drop_nil, ()⟩)  := by kernel_rfl
theorem fs_log_Drop_nil : CtrsOk Try.prog [] := trivial
theorem vc_log_Drop_nil (H : Nat → Entry) (v : c_log_Drop_nil.inp.V) (r : (p : Pat) × p.V) (h : (c_log_Drop_nil.body v).Sel H r) : fnVc (cx_log_Drop_nil) an_log_Drop_nil 0 Try.f26 c_log_Drop_nil.inp [O_log_Drop_nil] v (fun r' => r' = r) := by
  obtain ⟨⟩ := v
  obtain rfl := h
  exact Eq.mpr (eq_log_Drop_nil  _) (log_Drop_nil.ok _   rfl)
theorem ctr_log_Drop_nil : CtrOk Try.prog 26 c_log_Drop_nil := ⟨⟨_, Try.func26, by kernel_rfl, by kernel_rfl⟩, fun H v r h => mk_ok _ (fs_log_Drop_nil) (an := an_log_Drop_nil) (outs := [O_log_Drop_nil]) Try.func26 (by decide) (vc_log_Drop_nil H v r h)⟩
abbrev I_log_Log_Records : Pat := { slots := [(0, .ce (.ptr 0 0))], ents := [.box 116 [.ptr 1 0, .v (.int .i64), .v (.int .i64), .v .str, .v (.int .i64)], .box 96 [.os 2, .os 3, .v .bool, .v .bool, .v (.int .i64), .v .bool, .v (.sl (.int .i64))], .row 89 (.arr 4 .str), .row 101 (.pair (.int .i64) (.arr 4 .str))] }
abbrev O_log_Log_Records : Pat := { slots := [(0, .ce (.v (.sl .str)))], ents := [.box 116 [.ptr 1 0, .v (.int .i64), .v (.int .i64), .v .str, .v (.int .i64)], .box 96 [.os 2, .os 3, .v .bool, .v .bool, .v (.int .i64), .v .bool, .v (.sl (.int .i64))], .row 89 (.arr 4 .str), .row 101 (.pair (.int .i64) (.arr 4 .str))] }
def c_log_Log_Records : Ctr := { k0 := 2, inp := I_log_Log_Records, body := fun v => .need (Sp.lOk (v.1, v.2.1, v.2.2.1, v.2.2.2.1)) (.ret ⟨O_log_Log_Records, ((Sp.lRecs (v.1, v.2.1, v.2.2.1, v.2.2.2.1)), v.1, v.2.1, v.2.2.1, v.2.2.2.1, v.2.2.2.2.1, v.2.2.2.2.2.1, v.2.2.2.2.2.2.1, v.2.2.2.2.2.2.2.1, v.2.2.2.2.2.2.2.2.1, v.2.2.2.2.2.2.2.2.2.1, v.2.2.2.2.2.2.2.2.2.2.1, ())⟩), ex := 1 }

theorem ctr_log_Log_Records : CtrOk Try.prog 19 c_log_Log_Records := ⟨⟨_, Try.func19, by kernel_rfl, by kernel_rfl⟩, fun H v r h => by
  obtain ⟨fr, bl, b, se, dn, ar, af, ac, kp, bs, ws, ⟨⟩⟩ := v
  obtain ⟨hp, h⟩ := h
  have hp : Sp.lOk (fr, bl, b, se) := hp
  have hlen : List.length b ≤ 1000000 := by
    obtain ⟨h1, h2, h3, h4, h5, h6, h7⟩ := hp
    exact len_bound b bl h4 h7
  subst h
  refine read_ok rfl rfl fun X μ w us hex hr hs => ?_
  have hex : us.length = 1 := hex.resolve_left (by decide)
  match us, hex with
  | [u0], _ =>
  have h0 : PtrR (Sf (patA c_log_Log_Records.inp) (c_log_Log_Records.inp.st (fr, bl, b, se, dn, ar, af, ac, kp, bs, ws, ())).ent) μ 1 0 u0 := (hs (0, _) (.head _)).2
  obtain ⟨g, hm, hu⟩ : ∃ g, μ 1 = .pointer (some ⟨g, 0, none⟩) ∧ u0 = .pointer (some ⟨g, 0, none⟩) := h0
  subst hu
  obtain ⟨g', arr, hm', hh, hcs⟩ := hr.ent 1
  rw [hm] at hm'
  cases hm'
  have hcell : w.cell? ⟨g, 3, none⟩ = some (.string ⟨b.toArray⟩) := by
    cases hcs with
    | cons _ u1 _ l1 _ hcs =>
    cases hcs with
    | cons _ u2 _ l2 _ hcs =>
    cases hcs with
    | cons _ u3 _ l3 _ hcs =>
    cases hcs with
    | cons _ u4 _ l4 hc4 hcs =>
    obtain ⟨e4, _⟩ := Rp.str_inv hc4.2.2
    simp only [List.cons.injEq, and_true] at e4
    have e4 : u4 = Value.string ⟨b.toArray⟩ := e4
    subst e4
    simp [World.cell?, hh]
  refine Calls.mono (callsIn_wide.1 (records_in 4 (Nat.le_refl _) g b hlen w (heap_lt hh) hcell)) fun e w' he => ?_
  obtain ⟨v, rfl, hnew, hbel⟩ := he
  refine ⟨hbel, fun F' S' hF' => ?_⟩
  rcases hnew with ⟨rfl, hnil⟩ | ⟨gg, cap, rfl, g1, g2, g3, g4, g5⟩
  · have : PR F' w' S' μ (.one (.ce (.v (.sl .str) (Sp.recsB b)))) (.slice none 0 0) := by
      have e : Sp.recsB b = [] := hnil
      rw [e]; exact slstr_nil
    exact this
  · exact slstr_res (l := Sp.recsB b) g1 g2 (hF' gg g3 g4) (fun s hs => Nat.le_trans (Sp.recsB_mem hs) (Nat.le_trans hlen (by decide))) g5⟩

abbrev I_log_Records_nil : Pat := { slots := [(0, .ce .nilp)], ents := [] }
abbrev O_log_Records_nil : Pat := { slots := [(0, .ce (.v (.sl .str)))], ents := [] }
def c_log_Records_nil : Ctr := { k0 := 0, inp := I_log_Records_nil, body := fun v => .ret ⟨O_log_Records_nil, (([] : List Str), ())⟩, ex := 0 }
def an_log_Records_nil : Ann := []
def cx_log_Records_nil : Cx := mkCx []
theorem eq_log_Records_nil  (R : ((p : Pat) × p.V) → Prop) : fnVc (cx_log_Records_nil) an_log_Records_nil 0 Try.f19 I_log_Records_nil [O_log_Records_nil] (()) R = log_Records_nil.vc (fun y0 => R ⟨O_log_Records_nil, (y0, ())⟩)  := by kernel_rfl
theorem fs_log_Records_nil : CtrsOk Try.prog [] := trivial
theorem vc_log_Records_nil (H : Nat → Entry) (v : c_log_Records_nil.inp.V) (r : (p : Pat) × p.V) (h : (c_log_Records_nil.body v).Sel H r) : fnVc (cx_log_Records_nil) an_log_Records_nil 0 Try.f19 c_log_Records_nil.inp [O_log_Records_nil] v (fun r' => r' = r) := by
  obtain ⟨⟩ := v
  obtain rfl := h
  exact Eq.mpr (eq_log_Records_nil  _) (log_Records_nil.ok _   rfl)
theorem ctr_log_Records_nil : CtrOk Try.prog 19 c_log_Records_nil := ⟨⟨_, Try.func19, by kernel_rfl, by kernel_rfl⟩, fun H v r h => mk_ok _ (fs_log_Records_nil) (an := an_log_Records_nil) (outs := [O_log_Records_nil]) Try.func19 (by decide) (vc_log_Records_nil H v r h)⟩
abbrev I_log_Open : Pat := { slots := [(0, .ce (.ptr 0 0)), (1, .ce (.v (.int .i64))), (2, .ce (.v (.int .i64))), (3, .ce (.v (.int .i64)))], ents := [.box 96 [.os 1, .os 2, .v .bool, .v .bool, .v (.int .i64), .v .bool, .v (.sl (.int .i64))], .row 89 (.arr 4 .str), .row 101 (.pair (.int .i64) (.arr 4 .str))] }
abbrev O_log_Open_0 : Pat := { slots := [(0, .ce .nilp), (1, .ce (.v (.int .i64)))], ents := [.box 96 [.os 1, .os 2, .v .bool, .v .bool, .v (.int .i64), .v .bool, .v (.sl (.int .i64))], .row 89 (.arr 4 .str), .row 101 (.pair (.int .i64) (.arr 4 .str))] }
abbrev O_log_Open_1 : Pat := { slots := [(0, .ce (.ptr 3 0)), (1, .ce (.v (.int .i64)))], ents := [.box 96 [.os 1, .os 2, .v .bool, .v .bool, .v (.int .i64), .v .bool, .v (.sl (.int .i64))], .row 89 (.arr 4 .str), .row 101 (.pair (.int .i64) (.arr 4 .str)), .box 116 [.ptr 0 0, .v (.int .i64), .v (.int .i64), .v .str, .v (.int .i64)]] }
def c_log_Open : Ctr := { k0 := 1, inp := I_log_Open, body := fun v => .need (Sp.dPre9 (v.2.2.2.1, v.2.2.2.2.1, v.2.2.2.2.2.1, v.2.2.2.2.2.2.1, v.2.2.2.2.2.2.2.1, v.2.2.2.2.2.2.2.2.1, v.2.2.2.2.2.2.2.2.2.1)) ((.br (Sp.opNil v.1 v.2.1 v.2.2.1 (v.2.2.2.1, v.2.2.2.2.1, v.2.2.2.2.2.1, v.2.2.2.2.2.2.1, v.2.2.2.2.2.2.2.1, v.2.2.2.2.2.2.2.2.1, v.2.2.2.2.2.2.2.2.2.1)) (.ret ⟨O_log_Open_0, ((Sp.opErr v.1 v.2.1 v.2.2.1 (v.2.2.2.1, v.2.2.2.2.1, v.2.2.2.2.2.1, v.2.2.2.2.2.2.1, v.2.2.2.2.2.2.2.1, v.2.2.2.2.2.2.2.2.1, v.2.2.2.2.2.2.2.2.2.1)), v.2.2.2.1, v.2.2.2.2.1, v.2.2.2.2.2.1, v.2.2.2.2.2.2.1, v.2.2.2.2.2.2.2.1, v.2.2.2.2.2.2.2.2.1, v.2.2.2.2.2.2.2.2.2.1, ())⟩) (.ret ⟨O_log_Open_1, ((0 : Int), v.2.2.2.1, v.2.2.2.2.1, v.2.2.2.2.2.1, v.2.2.2.2.2.2.1, v.2.2.2.2.2.2.2.1, v.2.2.2.2.2.2.2.2.1, v.2.2.2.2.2.2.2.2.2.1, v.1, v.2.1, (Sp.opS v.1 v.2.2.1 (v.2.2.2.1, v.2.2.2.2.1, v.2.2.2.2.2.1, v.2.2.2.2.2.2.1, v.2.2.2.2.2.2.2.1, v.2.2.2.2.2.2.2.2.1, v.2.2.2.2.2.2.2.2.2.1)), v.2.2.1, ())⟩))), ex := 0 }
def an_log_Open : Ann := [(5, { slots := [(0, .ce (.ptr 0 0)), (1, .ce (.v (.int .i64))), (2, .ce (.v (.int .i64))), (3, .ce (.v (.int .i64))), (10, .ce (.ptr 3 0)), (46, .ce (.v (.int .i64))), (47, .ce (.v (.int .i64)))], ents := [.box 96 [.os 1, .os 2, .v .bool, .v .bool, .v (.int .i64), .v .bool, .v (.sl (.int .i64))], .row 89 (.arr 4 .str), .row 101 (.pair (.int .i64) (.arr 4 .str)), .box 107 [.pn 3, .os 4], .row 5 (.int .u8)] })]
def cx_log_Open : Cx := mkCx [(56, [c_disk_Disk_Blocks, c_disk_Blocks_nil]), (57, [c_log_blocksOf]), (58, [c_disk_Disk_Read, c_disk_Read_nil]), (59, [c_strings_Builder_WriteString]), (60, [c_strings_Builder_String]), (61, [c_log_whole])]
theorem eq_log_Open (f : Int) (n : Int) (s : Int) (down : Bool) (armed : Bool) (after : Int) (acut : Bool) (keep : (List Int)) (bs : (List (List Str))) (ws : (List (Int × (List Str)))) (R : ((p : Pat) × p.V) → Prop) : fnVc cx_log_Open an_log_Open 1 Try.f16 I_log_Open [O_log_Open_0, O_log_Open_1] (f, n, s, down, armed, after, acut, keep, bs, ws, ()) R = log_Open.vc (fun y0 y1 y2 y3 y4 y5 y6 y7 => R ⟨O_log_Open_0, (y0, y1, y2, y3, y4, y5, y6, y7, ())⟩) (fun y0 y1 y2 y3 y4 y5 y6 y7 y8 y9 y10 y11 => R ⟨O_log_Open_1, (y0, y1, y2, y3, y4, y5, y6, y7, y8, y9, y10, y11, ())⟩) f n s down armed after acut keep bs ws := by kernel_rfl
theorem fs_log_Open : CtrsOk Try.prog [(56, [c_disk_Disk_Blocks, c_disk_Blocks_nil]), (57, [c_log_blocksOf]), (58, [c_disk_Disk_Read, c_disk_Read_nil]), (59, [c_strings_Builder_WriteString]), (60, [c_strings_Builder_String]), (61, [c_log_whole])] := ⟨(ctrC (ctr_disk_Disk_Blocks) (ctr1 (ctr_disk_Blocks_nil))), ctr1 (ctr_log_blocksOf), (ctrC (ctr_disk_Disk_Read) (ctr1 (ctr_disk_Read_nil))), ctr1 (ctr_strings_Builder_WriteString), ctr1 (ctr_strings_Builder_String), ctr1 (ctr_log_whole), trivial⟩
theorem vc_log_Open (H : Nat → Entry) (v : c_log_Open.inp.V) (r : (p : Pat) × p.V) (h : (c_log_Open.body v).Sel H r) : fnVc cx_log_Open an_log_Open 1 Try.f16 c_log_Open.inp [O_log_Open_0, O_log_Open_1] v (fun r' => r' = r) := by
  obtain ⟨f, n, s, down, armed, after, acut, keep, bs, ws, ⟨⟩⟩ := v
  obtain ⟨hp, h⟩ := h
  rcases sel_br h with ⟨hb, h⟩ | ⟨hb, h⟩
  · subst h; exact Eq.mpr (eq_log_Open f n s down armed after acut keep bs ws _) (log_Open.ok _ _ f n s down armed after acut keep bs ws hp (fun _ => rfl) (fun e => absurd (e.symm.trans hb) (by decide)))
  · subst h; exact Eq.mpr (eq_log_Open f n s down armed after acut keep bs ws _) (log_Open.ok _ _ f n s down armed after acut keep bs ws hp (fun e => absurd (e.symm.trans hb) (by decide)) (fun _ => rfl))

theorem ctr_log_Open : CtrOk Try.prog 16 c_log_Open := ⟨⟨_, Try.func16, by kernel_rfl, by kernel_rfl⟩, fun H v r h => mk_ok _ fs_log_Open (an := an_log_Open) (outs := [O_log_Open_0, O_log_Open_1]) Try.func16 (by decide) (vc_log_Open H v r h)⟩
abbrev I_log_Open_nil : Pat := { slots := [(0, .ce .nilp), (1, .ce (.v (.int .i64))), (2, .ce (.v (.int .i64))), (3, .ce (.v (.int .i64)))], ents := [] }
abbrev O_log_Open_nil : Pat := { slots := [(0, .ce .nilp), (1, .ce (.v (.int .i64)))], ents := [] }
def c_log_Open_nil : Ctr := { k0 := 0, inp := I_log_Open_nil, body := fun v => .ret ⟨O_log_Open_nil, ((1 : Int), ())⟩, ex := 0 }
def an_log_Open_nil : Ann := [(5, { slots := [(0, .ce .nilp), (1, .ce (.v (.int .i64))), (2, .ce (.v (.int .i64))), (3, .ce (.v (.int .i64))), (10, .ce (.ptr 0 0)), (46, .ce (.v (.int .i64))), (47, .ce (.v (.int .i64)))], ents := [.box 107 [.pn 0, .os 1], .row 5 (.int .u8)] })]
def cx_log_Open_nil : Cx := mkCx [(56, [c_disk_Disk_Blocks, c_disk_Blocks_nil]), (57, [c_log_blocksOf]), (58, [c_disk_Disk_Read, c_disk_Read_nil]), (59, [c_strings_Builder_WriteString]), (60, [c_strings_Builder_String]), (61, [c_log_whole])]
theorem eq_log_Open_nil (f : Int) (n : Int) (s : Int) (R : ((p : Pat) × p.V) → Prop) : fnVc (cx_log_Open_nil) an_log_Open_nil 0 Try.f16 I_log_Open_nil [O_log_Open_nil] (f, n, s, ()) R = log_Open_nil.vc (fun y0 => R ⟨O_log_Open_nil, (y0, ())⟩) f n s := by kernel_rfl
theorem fs_log_Open_nil : CtrsOk Try.prog [(56, [c_disk_Disk_Blocks, c_disk_Blocks_nil]), (57, [c_log_blocksOf]), (58, [c_disk_Disk_Read, c_disk_Read_nil]), (59, [c_strings_Builder_WriteString]), (60, [c_strings_Builder_String]), (61, [c_log_whole])] := ⟨(ctrC (ctr_disk_Disk_Blocks) (ctr1 (ctr_disk_Blocks_nil))), ctr1 (ctr_log_blocksOf), (ctrC (ctr_disk_Disk_Read) (ctr1 (ctr_disk_Read_nil))), ctr1 (ctr_strings_Builder_WriteString), ctr1 (ctr_strings_Builder_String), ctr1 (ctr_log_whole), trivial⟩
theorem vc_log_Open_nil (H : Nat → Entry) (v : c_log_Open_nil.inp.V) (r : (p : Pat) × p.V) (h : (c_log_Open_nil.body v).Sel H r) : fnVc (cx_log_Open_nil) an_log_Open_nil 0 Try.f16 c_log_Open_nil.inp [O_log_Open_nil] v (fun r' => r' = r) := by
  obtain ⟨f, n, s, ⟨⟩⟩ := v
  obtain rfl := h
  exact Eq.mpr (eq_log_Open_nil f n s _) (log_Open_nil.ok _ f n s  rfl)
theorem ctr_log_Open_nil : CtrOk Try.prog 16 c_log_Open_nil := ⟨⟨_, Try.func16, by kernel_rfl, by kernel_rfl⟩, fun H v r h => mk_ok _ (fs_log_Open_nil) (an := an_log_Open_nil) (outs := [O_log_Open_nil]) Try.func16 (by decide) (vc_log_Open_nil H v r h)⟩
abbrev I_rectolaw29_ab : Pat := { slots := [], ents := [] }
abbrev O_rectolaw29_ab : Pat := { slots := [(0, .ce (.v .bool))], ents := [] }
def c_rectolaw29_ab : Ctr := { k0 := 0, inp := I_rectolaw29_ab, body := fun v => .ret ⟨O_rectolaw29_ab, ((Sp.tt), ())⟩, ex := 0 }
def an_rectolaw29_ab : Ann := []
def cx_rectolaw29_ab : Cx := mkCx [(11, [c_disk_New]), (16, [c_log_Open, c_log_Open_nil]), (24, [c_log_Log_Add, c_log_Add_nil]), (20, [c_log_Log_Sealed, c_log_Sealed_nil]), (27, [c_log_Log_Write, c_log_Write_nil]), (28, [c_disk_Disk_Flush, c_disk_Flush_nil]), (25, [c_log_Log_Seal, c_log_Seal_nil]), (21, [c_log_Log_Bytes, c_log_Bytes_nil]), (22, [c_log_Log_Room, c_log_Room_nil]), (19, [c_log_Log_Records, c_log_Records_nil]), (18, [c_rectoplain_Texts])]
theorem eq_rectolaw29_ab  (R : ((p : Pat) × p.V) → Prop) : fnVc (cx_rectolaw29_ab) an_rectolaw29_ab 0 Try.f12 I_rectolaw29_ab [O_rectolaw29_ab] (()) R = rectolaw29_ab.vc (fun y0 => R ⟨O_rectolaw29_ab, (y0, ())⟩)  := by kernel_rfl
theorem fs_rectolaw29_ab : CtrsOk Try.prog [(11, [c_disk_New]), (16, [c_log_Open, c_log_Open_nil]), (24, [c_log_Log_Add, c_log_Add_nil]), (20, [c_log_Log_Sealed, c_log_Sealed_nil]), (27, [c_log_Log_Write, c_log_Write_nil]), (28, [c_disk_Disk_Flush, c_disk_Flush_nil]), (25, [c_log_Log_Seal, c_log_Seal_nil]), (21, [c_log_Log_Bytes, c_log_Bytes_nil]), (22, [c_log_Log_Room, c_log_Room_nil]), (19, [c_log_Log_Records, c_log_Records_nil]), (18, [c_rectoplain_Texts])] := ⟨ctr1 (ctr_disk_New), (ctrC (ctr_log_Open) (ctr1 (ctr_log_Open_nil))), (ctrC (ctr_log_Log_Add) (ctr1 (ctr_log_Add_nil))), (ctrC (ctr_log_Log_Sealed) (ctr1 (ctr_log_Sealed_nil))), (ctrC (ctr_log_Log_Write) (ctr1 (ctr_log_Write_nil))), (ctrC (ctr_disk_Disk_Flush) (ctr1 (ctr_disk_Flush_nil))), (ctrC (ctr_log_Log_Seal) (ctr1 (ctr_log_Seal_nil))), (ctrC (ctr_log_Log_Bytes) (ctr1 (ctr_log_Bytes_nil))), (ctrC (ctr_log_Log_Room) (ctr1 (ctr_log_Room_nil))), (ctrC (ctr_log_Log_Records) (ctr1 (ctr_log_Records_nil))), ctr1 (ctr_rectoplain_Texts), trivial⟩
theorem vc_rectolaw29_ab (H : Nat → Entry) (v : c_rectolaw29_ab.inp.V) (r : (p : Pat) × p.V) (h : (c_rectolaw29_ab.body v).Sel H r) : fnVc (cx_rectolaw29_ab) an_rectolaw29_ab 0 Try.f12 c_rectolaw29_ab.inp [O_rectolaw29_ab] v (fun r' => r' = r) := by
  obtain ⟨⟩ := v
  obtain rfl := h
  exact Eq.mpr (eq_rectolaw29_ab  _) (rectolaw29_ab.ok _   rfl)
theorem ctr_rectolaw29_ab : CtrOk Try.prog 12 c_rectolaw29_ab := ⟨⟨_, Try.func12, by kernel_rfl, by kernel_rfl⟩, fun H v r h => mk_ok _ (fs_rectolaw29_ab) (an := an_rectolaw29_ab) (outs := [O_rectolaw29_ab]) Try.func12 (by decide) (vc_rectolaw29_ab H v r h)⟩
end Vs
