/- Functions held against what they tell. Written by a program of this session. -/
import Derived.Test.YtniobmaoangdmaaPlX
import Derived.Test.YtniobmaoangdmaaViThree
import Derived.Test.YtniobmaoangdmaaFnwW
set_option linter.unnecessarySimpa false
set_option linter.unusedVariables false
set_option linter.unusedSectionVars false
set_option linter.unusedSimpArgs false
set_option autoImplicit false
set_option linter.unusedVariables false
set_option maxRecDepth 100000
attribute [local irreducible] Vi.fnVc
namespace Vs
open Go Vi Go.Proofs
abbrev I_rectolaw24_WordsTold : Pat := { slots := [(0, .ce (.v (.sl (.pair (.int .i64) .str))))], ents := [] }
abbrev O_rectolaw24_WordsTold : Pat := { slots := [(0, .ce (.v .bool))], ents := [] }
def c_rectolaw24_WordsTold : Ctr := { k0 := 0, inp := I_rectolaw24_WordsTold, body := fun v => .need (SzT 1048576 (.sl (.pair (.int .i64) .str)) v.1) (.ret ⟨O_rectolaw24_WordsTold, ((Sp.tt), ())⟩), ex := 0 }
def an_rectolaw24_WordsTold : Ann := []
def cx_rectolaw24_WordsTold : Cx := mkCx [(8, [c_rectolaw24_abc]), (13, [c_rectolaw24_ref]), (14, [c_words_Old]), (15, [c_rectoref24_Told]), (16, [c_words_New]), (17, [c_words_Marked]), (18, [c_rectoref24_Marked])]
theorem eq_rectolaw24_WordsTold (l : (List (Int × Str))) (R : ((p : Pat) × p.V) → Prop) : fnVc (cx_rectolaw24_WordsTold) an_rectolaw24_WordsTold 0 Try.f5 I_rectolaw24_WordsTold [O_rectolaw24_WordsTold] (l, ()) R = rectolaw24_WordsTold.vc (fun y0 => R ⟨O_rectolaw24_WordsTold, (y0, ())⟩) l := by kernel_rfl
theorem fs_rectolaw24_WordsTold : CtrsOk Try.prog [(8, [c_rectolaw24_abc]), (13, [c_rectolaw24_ref]), (14, [c_words_Old]), (15, [c_rectoref24_Told]), (16, [c_words_New]), (17, [c_words_Marked]), (18, [c_rectoref24_Marked])] := ⟨ctr1 (ctr_rectolaw24_abc), ctr1 (ctr_rectolaw24_ref), ctr1 (ctr_words_Old), ctr1 (ctr_rectoref24_Told), ctr1 (ctr_words_New), ctr1 (ctr_words_Marked), ctr1 (ctr_rectoref24_Marked), trivial⟩
theorem vc_rectolaw24_WordsTold (H : Nat → Entry) (v : c_rectolaw24_WordsTold.inp.V) (r : (p : Pat) × p.V) (h : (c_rectolaw24_WordsTold.body v).Sel H r) : fnVc (cx_rectolaw24_WordsTold) an_rectolaw24_WordsTold 0 Try.f5 c_rectolaw24_WordsTold.inp [O_rectolaw24_WordsTold] v (fun r' => r' = r) := by
  obtain ⟨l, ⟨⟩⟩ := v
  obtain ⟨h, rfl⟩ := h
  exact Eq.mpr (eq_rectolaw24_WordsTold l _) (rectolaw24_WordsTold.ok _ l h rfl)
theorem ctr_rectolaw24_WordsTold : CtrOk Try.prog 5 c_rectolaw24_WordsTold := ⟨⟨_, Try.func5, by kernel_rfl, by kernel_rfl⟩, fun H v r h => mk_ok _ (fs_rectolaw24_WordsTold) (an := an_rectolaw24_WordsTold) (outs := [O_rectolaw24_WordsTold]) Try.func5 (by decide) (vc_rectolaw24_WordsTold H v r h)⟩
end Vs
