/- Functions held against what they tell. Written by a program of this session. -/
import Derived.Test.YtdeajocokfhklaaPlN
import Derived.Test.YtdeajocokfhklaaViThree
import Derived.Test.YtdeajocokfhklaaFndD
set_option linter.unnecessarySimpa false
set_option linter.unusedVariables false
set_option linter.unusedSectionVars false
set_option linter.unusedSimpArgs false
set_option autoImplicit false
set_option linter.unusedVariables false
set_option maxRecDepth 100000
attribute [local irreducible] Vi.fnVc
namespace Vs
open Go Vi Go.Proofs
abbrev I_quill_digits : Pat := { slots := [(0, .ce (.v (.int .i64)))], ents := [] }
abbrev O_quill_digits : Pat := { slots := [(0, .ce (.v .str))], ents := [] }
def c_quill_digits (nn : Nat) : Ctr := { k0 := 0, inp := I_quill_digits, body := fun v => .need (Sp.digs.pre v.1 ∧ Sp.digm v.1 < nn) (.ret ⟨O_quill_digits, ((Sp.digs v.1), ())⟩), ex := 0 }
def an_quill_digits : Ann := []
def cx_quill_digits (nn : Nat) : Cx := mkCx [(71, [c_quill_digits nn])]
theorem eq_quill_digits (nn : Nat) (n : Int) (R : ((p : Pat) × p.V) → Prop) : fnVc (cx_quill_digits nn) an_quill_digits 0 Try.f71 I_quill_digits [O_quill_digits] (n, ()) R = quill_digits.vc (fun y0 => R ⟨O_quill_digits, (y0, ())⟩) nn n := by kernel_rfl
theorem fs_quill_digits (nn : Nat) (ih : CtrOk Try.prog 71 (c_quill_digits nn)) : CtrsOk Try.prog [(71, [c_quill_digits nn])] := ⟨ctr1 ih, trivial⟩
theorem ctr_quill_digits (nn : Nat) : CtrOk Try.prog 71 (c_quill_digits nn) := by
  induction nn with
  | zero => exact ⟨⟨_, Try.func71, by kernel_rfl, by kernel_rfl⟩, fun H v r h => absurd h.1.2 (Nat.not_lt_zero _)⟩
  | succ nn ih =>
  refine ⟨⟨_, Try.func71, by kernel_rfl, by kernel_rfl⟩, ?_⟩
  intro H v r h
  obtain ⟨n, ⟨⟩⟩ := v
  obtain ⟨h, rfl⟩ := h
  exact mk_ok _ (fs_quill_digits nn ih) (an := an_quill_digits) (outs := [O_quill_digits]) Try.func71 (Nat.le_of_ble_eq_true rfl) (Eq.mpr (eq_quill_digits nn n _) (quill_digits.ok nn _ n h rfl))
abbrev I_quill_Num : Pat := { slots := [(0, .ce (.v (.int .i64)))], ents := [] }
abbrev O_quill_Num : Pat := { slots := [(0, .ce (.v .str)), (1, .ce (.v (.int .i64)))], ents := [] }
def c_quill_Num : Ctr := { k0 := 0, inp := I_quill_Num, body := fun v => .ret ⟨O_quill_Num, ((Sp.numP v.1).1, (Sp.numP v.1).2, ())⟩, ex := 0 }
def an_quill_Num : Ann := []
def cx_quill_Num : Cx := mkCx [(71, [c_quill_digits 1099511627778])]
theorem eq_quill_Num (n : Int) (R : ((p : Pat) × p.V) → Prop) : fnVc (cx_quill_Num) an_quill_Num 0 Try.f54 I_quill_Num [O_quill_Num] (n, ()) R = quill_Num.vc (fun y0 y1 => R ⟨O_quill_Num, (y0, y1, ())⟩) n := by kernel_rfl
theorem fs_quill_Num : CtrsOk Try.prog [(71, [c_quill_digits 1099511627778])] := ⟨ctr1 (ctr_quill_digits 1099511627778), trivial⟩
theorem vc_quill_Num (H : Nat → Entry) (v : c_quill_Num.inp.V) (r : (p : Pat) × p.V) (h : (c_quill_Num.body v).Sel H r) : fnVc (cx_quill_Num) an_quill_Num 0 Try.f54 c_quill_Num.inp [O_quill_Num] v (fun r' => r' = r) := by
  obtain ⟨n, ⟨⟩⟩ := v
  obtain rfl := h
  exact Eq.mpr (eq_quill_Num n _) (quill_Num.ok _ n  rfl)
theorem ctr_quill_Num : CtrOk Try.prog 54 c_quill_Num := ⟨⟨_, Try.func54, by kernel_rfl, by kernel_rfl⟩, fun H v r h => mk_ok _ (fs_quill_Num) (an := an_quill_Num) (outs := [O_quill_Num]) Try.func54 (by decide) (vc_quill_Num H v r h)⟩
abbrev I_quill_TakeNum : Pat := { slots := [(0, .ce (.v .str))], ents := [] }
abbrev O_quill_TakeNum : Pat := { slots := [(0, .ce (.v (.int .i64))), (1, .ce (.v .str)), (2, .ce (.v (.int .i64)))], ents := [] }
def c_quill_TakeNum : Ctr := { k0 := 0, inp := I_quill_TakeNum, body := fun v => .need (Sp.takeNum.pre v.1) (.ret ⟨O_quill_TakeNum, ((Sp.takeNum v.1).1, (Sp.takeNum v.1).2.1, (Sp.takeNum v.1).2.2, ())⟩), ex := 0 }
def an_quill_TakeNum : Ann := [(6, { slots := [(5, .ce (.v .str)), (6, .ce (.v .str)), (7, .ce (.v (.int .i64))), (39, .ce (.v (.int .i64))), (40, .ce (.v (.int .i64)))], ents := [] })]
def cx_quill_TakeNum : Cx := mkCx []
theorem eq_quill_TakeNum (b : Str) (R : ((p : Pat) × p.V) → Prop) : fnVc (cx_quill_TakeNum) an_quill_TakeNum 0 Try.f57 I_quill_TakeNum [O_quill_TakeNum] (b, ()) R = quill_TakeNum.vc (fun y0 y1 y2 => R ⟨O_quill_TakeNum, (y0, y1, y2, ())⟩) b := by kernel_rfl
theorem fs_quill_TakeNum : CtrsOk Try.prog [] := trivial
theorem vc_quill_TakeNum (H : Nat → Entry) (v : c_quill_TakeNum.inp.V) (r : (p : Pat) × p.V) (h : (c_quill_TakeNum.body v).Sel H r) : fnVc (cx_quill_TakeNum) an_quill_TakeNum 0 Try.f57 c_quill_TakeNum.inp [O_quill_TakeNum] v (fun r' => r' = r) := by
  obtain ⟨b, ⟨⟩⟩ := v
  obtain ⟨h, rfl⟩ := h
  exact Eq.mpr (eq_quill_TakeNum b _) (quill_TakeNum.ok _ b h rfl)
theorem ctr_quill_TakeNum : CtrOk Try.prog 57 c_quill_TakeNum := ⟨⟨_, Try.func57, by kernel_rfl, by kernel_rfl⟩, fun H v r h => mk_ok _ (fs_quill_TakeNum) (an := an_quill_TakeNum) (outs := [O_quill_TakeNum]) Try.func57 (by decide) (vc_quill_TakeNum H v r h)⟩
abbrev I_rectoref01_Size : Pat := { slots := [(0, .ce (.v (.int .i64)))], ents := [] }
abbrev O_rectoref01_Size : Pat := { slots := [(0, .ce (.v (.int .i64)))], ents := [] }
def c_rectoref01_Size : Ctr := { k0 := 0, inp := I_rectoref01_Size, body := fun v => .need (Sp.sizeN.pre v.1) (.ret ⟨O_rectoref01_Size, ((Sp.sizeN v.1), ())⟩), ex := 0 }
def an_rectoref01_Size : Ann := [(3, { slots := [(3, .ce (.v (.int .i64))), (4, .ce (.v (.int .i64)))], ents := [] })]
def cx_rectoref01_Size : Cx := mkCx []
theorem eq_rectoref01_Size (n : Int) (R : ((p : Pat) × p.V) → Prop) : fnVc (cx_rectoref01_Size) an_rectoref01_Size 0 Try.f85 I_rectoref01_Size [O_rectoref01_Size] (n, ()) R = rectoref01_Size.vc (fun y0 => R ⟨O_rectoref01_Size, (y0, ())⟩) n := by kernel_rfl
theorem fs_rectoref01_Size : CtrsOk Try.prog [] := trivial
theorem vc_rectoref01_Size (H : Nat → Entry) (v : c_rectoref01_Size.inp.V) (r : (p : Pat) × p.V) (h : (c_rectoref01_Size.body v).Sel H r) : fnVc (cx_rectoref01_Size) an_rectoref01_Size 0 Try.f85 c_rectoref01_Size.inp [O_rectoref01_Size] v (fun r' => r' = r) := by
  obtain ⟨n, ⟨⟩⟩ := v
  obtain ⟨h, rfl⟩ := h
  exact Eq.mpr (eq_rectoref01_Size n _) (rectoref01_Size.ok _ n h rfl)
theorem ctr_rectoref01_Size : CtrOk Try.prog 85 c_rectoref01_Size := ⟨⟨_, Try.func85, by kernel_rfl, by kernel_rfl⟩, fun H v r h => mk_ok _ (fs_rectoref01_Size) (an := an_rectoref01_Size) (outs := [O_rectoref01_Size]) Try.func85 (by decide) (vc_rectoref01_Size H v r h)⟩
abbrev I_rectoref01_Plain : Pat := { slots := [(0, .ce (.v (.int .i64)))], ents := [] }
abbrev O_rectoref01_Plain : Pat := { slots := [(0, .ce (.v .str))], ents := [] }
def c_rectoref01_Plain : Ctr := { k0 := 0, inp := I_rectoref01_Plain, body := fun v => .need (Sp.plain.pre v.1) (.ret ⟨O_rectoref01_Plain, ((Sp.plain v.1), ())⟩), ex := 0 }
def an_rectoref01_Plain : Ann := [(3, { slots := [(0, .ce (.v (.int .i64))), (3, .ce (.v .str)), (4, .ce (.v (.int .i64)))], ents := [] })]
def cx_rectoref01_Plain : Cx := mkCx [(85, [c_rectoref01_Size])]
theorem eq_rectoref01_Plain (n : Int) (R : ((p : Pat) × p.V) → Prop) : fnVc (cx_rectoref01_Plain) an_rectoref01_Plain 0 Try.f81 I_rectoref01_Plain [O_rectoref01_Plain] (n, ()) R = rectoref01_Plain.vc (fun y0 => R ⟨O_rectoref01_Plain, (y0, ())⟩) n := by kernel_rfl
theorem fs_rectoref01_Plain : CtrsOk Try.prog [(85, [c_rectoref01_Size])] := ⟨ctr1 (ctr_rectoref01_Size), trivial⟩
theorem vc_rectoref01_Plain (H : Nat → Entry) (v : c_rectoref01_Plain.inp.V) (r : (p : Pat) × p.V) (h : (c_rectoref01_Plain.body v).Sel H r) : fnVc (cx_rectoref01_Plain) an_rectoref01_Plain 0 Try.f81 c_rectoref01_Plain.inp [O_rectoref01_Plain] v (fun r' => r' = r) := by
  obtain ⟨n, ⟨⟩⟩ := v
  obtain ⟨h, rfl⟩ := h
  exact Eq.mpr (eq_rectoref01_Plain n _) (rectoref01_Plain.ok _ n h rfl)
theorem ctr_rectoref01_Plain : CtrOk Try.prog 81 c_rectoref01_Plain := ⟨⟨_, Try.func81, by kernel_rfl, by kernel_rfl⟩, fun H v r h => mk_ok _ (fs_rectoref01_Plain) (an := an_rectoref01_Plain) (outs := [O_rectoref01_Plain]) Try.func81 (by decide) (vc_rectoref01_Plain H v r h)⟩
abbrev I_rectoref01_num : Pat := { slots := [(0, .ce (.v .str)), (1, .ce (.v (.int .i64)))], ents := [] }
abbrev O_rectoref01_num : Pat := { slots := [(0, .ag (.pair (.int .i64) (.int .i64)))], ents := [] }
def c_rectoref01_num : Ctr := { k0 := 0, inp := I_rectoref01_num, body := fun v => .need (Sp.numAt.pre v.1 v.2.1) (.ret ⟨O_rectoref01_num, ((Sp.numAt v.1 v.2.1), ())⟩), ex := 0 }
def an_rectoref01_num : Ann := [(8, { slots := [(0, .ce (.v .str)), (1, .ce (.v (.int .i64))), (4, .ce (.ptr 0 0)), (5, .ce (.v (.int .i64))), (6, .ce (.v (.int .i64))), (7, .ce (.v (.int .i64)))], ents := [.box 143 [.v (.int .i64), .v (.int .i64)]] })]
def cx_rectoref01_num : Cx := mkCx []
theorem eq_rectoref01_num (b : Str) (i : Int) (R : ((p : Pat) × p.V) → Prop) : fnVc (cx_rectoref01_num) an_rectoref01_num 0 Try.f82 I_rectoref01_num [O_rectoref01_num] (b, i, ()) R = rectoref01_num.vc (fun y0 => R ⟨O_rectoref01_num, (y0, ())⟩) b i := by kernel_rfl
theorem fs_rectoref01_num : CtrsOk Try.prog [] := trivial
theorem vc_rectoref01_num (H : Nat → Entry) (v : c_rectoref01_num.inp.V) (r : (p : Pat) × p.V) (h : (c_rectoref01_num.body v).Sel H r) : fnVc (cx_rectoref01_num) an_rectoref01_num 0 Try.f82 c_rectoref01_num.inp [O_rectoref01_num] v (fun r' => r' = r) := by
  obtain ⟨b, i, ⟨⟩⟩ := v
  obtain ⟨h, rfl⟩ := h
  exact Eq.mpr (eq_rectoref01_num b i _) (rectoref01_num.ok _ b i h rfl)
theorem ctr_rectoref01_num : CtrOk Try.prog 82 c_rectoref01_num := ⟨⟨_, Try.func82, by kernel_rfl, by kernel_rfl⟩, fun H v r h => mk_ok _ (fs_rectoref01_num) (an := an_rectoref01_num) (outs := [O_rectoref01_num]) Try.func82 (by decide) (vc_rectoref01_num H v r h)⟩
abbrev I_rectoref01_TakeNum : Pat := { slots := [(0, .ce (.v .str))], ents := [] }
abbrev O_rectoref01_TakeNum : Pat := { slots := [(0, .ag (.pair (.int .i64) (.pair .str (.pair (.sl .str) (.pair .str (.int .i64))))))], ents := [] }
def c_rectoref01_TakeNum : Ctr := { k0 := 0, inp := I_rectoref01_TakeNum, body := fun v => .need (Sp.takenN.pre v.1) (.ret ⟨O_rectoref01_TakeNum, ((Sp.takenN v.1), ())⟩), ex := 0 }
def an_rectoref01_TakeNum : Ann := []
def cx_rectoref01_TakeNum : Cx := mkCx [(82, [c_rectoref01_num])]
theorem eq_rectoref01_TakeNum (b : Str) (R : ((p : Pat) × p.V) → Prop) : fnVc (cx_rectoref01_TakeNum) an_rectoref01_TakeNum 0 Try.f75 I_rectoref01_TakeNum [O_rectoref01_TakeNum] (b, ()) R = rectoref01_TakeNum.vc (fun y0 => R ⟨O_rectoref01_TakeNum, (y0, ())⟩) b := by kernel_rfl
theorem fs_rectoref01_TakeNum : CtrsOk Try.prog [(82, [c_rectoref01_num])] := ⟨ctr1 (ctr_rectoref01_num), trivial⟩
theorem vc_rectoref01_TakeNum (H : Nat → Entry) (v : c_rectoref01_TakeNum.inp.V) (r : (p : Pat) × p.V) (h : (c_rectoref01_TakeNum.body v).Sel H r) : fnVc (cx_rectoref01_TakeNum) an_rectoref01_TakeNum 0 Try.f75 c_rectoref01_TakeNum.inp [O_rectoref01_TakeNum] v (fun r' => r' = r) := by
  obtain ⟨b, ⟨⟩⟩ := v
  obtain ⟨h, rfl⟩ := h
  exact Eq.mpr (eq_rectoref01_TakeNum b _) (rectoref01_TakeNum.ok _ b h rfl)
theorem ctr_rectoref01_TakeNum : CtrOk Try.prog 75 c_rectoref01_TakeNum := ⟨⟨_, Try.func75, by kernel_rfl, by kernel_rfl⟩, fun H v r h => mk_ok _ (fs_rectoref01_TakeNum) (an := an_rectoref01_TakeNum) (outs := [O_rectoref01_TakeNum]) Try.func75 (by decide) (vc_rectoref01_TakeNum H v r h)⟩
end Vs
