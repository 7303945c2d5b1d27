/- The law WordsTold: where what it reads is of bulk at most 1048576, it returns true, and each argument reads behind the call as it read before. -/
import Derived.Test.YtniobmaoangdmaaFnwX
import Derived.Test.YtniobmaoangdmaaViThree
import Derived.Test.YtniobmaoangdmaaRows
import Derived.WalkKit
import Derived.ProofKit
import Derived.OpenShut
import Derived.ShutString
import Derived.ChangeOld
import Derived.Below
import Derived.SizedLaws
import Derived.JoinedCond
import Derived.Deep.CondSized
set_option linter.unnecessarySimpa false
set_option linter.unusedVariables false
set_option linter.unusedSectionVars false
set_option linter.unusedSimpArgs false
namespace Go.Proofs.Ytniobmaoangdmaa.wordsTold
open Go.ChangeShapes Go.WideShapes Go.ChangeAt Go.RowKit
open Go.ChangeMaps (open_string shut_string)
set_option linter.unusedVariables false
theorem own : ownKnob Try.prog.godebug = none := by kernel_rfl
theorem laidOut : laidOutB Try.prog = true := by kernel_rfl
/-- How much a reading holds, as the statement counts it. -/
def Blk (H : Type) : Vi.BlkFn H := {
  b := Rows.uptoBulk
  ba := Rows.uptoBulkAll
  str := fun s => Nat.le_refl _
  lit := fun l => by cases l <;> simp [Rows.uptoBulk]
  nil := Nat.le_refl _
  sl := fun e s => by show _ ≤ Rows.uptoBulkAll e + Rows.uptoBulkAll s + 1; omega
  agg := fun p => by show _ ≤ Rows.uptoBulkAll p + 1; omega
  cons := fun d r => Nat.le_refl _ }
set_option maxRecDepth 100000 in
theorem lifted (os : Os) (started : os.Started) (H : Type) (enc : TypeId × Value → H) (FF : Stop.Interp) :
    ReturnsInHanded {} Try.checked os 5 .any ((Rows.OpenSpec.upto Rows.wordsToldSpec).pre6 enc Try.prog Try.f5 Rows.wordsToldUptoRow.domain false) (((Rows.OpenSpec.upto Rows.wordsToldSpec).at FF).post enc Try.prog Try.f5 false true false false) := by
  refine returnsInHanded_of_cond_sized (C := Try.checked) (s := Rows.OpenSpec.upto Rows.wordsToldSpec) (k := Rows.uptoSmall) rfl own started (by kernel_rfl) Try.func5
    (OpenSpec.witness (enc := enc) (C := Try.checked) (s := Rows.OpenSpec.upto Rows.wordsToldSpec) (k := Rows.uptoSmall) rfl false ⟨#[], #[.slice none 0 0], []⟩ 8 (by kernel_rfl) (by kernel_rfl) (by kernel_rfl) (x := ([.nil], [], [])) (by kernel_rfl) rfl (by kernel_rfl)) ?_
  intro W base args ds gs before hval0 hW hcnd hk hsz0 _
  show Calls Try.prog 5 args W fun e W' => ∃ v, e = .returned v ∧ Rows.wordsToldSpec.post enc Try.prog Try.f5 false true false false W args v W'
  have hval : ∀ (j : Nat) t v, Try.f5.params[j]? = some t → args[j]? = some v → Value.okWide Try.prog W .any base t v := hval0
  have hW' := hW
  obtain ⟨p, q, hA0, hV, rfl, hfz, hnd⟩ := hW
  have hA : DataW.TrodAll enc Try.prog W 0 (fun _ => true) true Try.f5.params.toList args.toList ds p := hA0
  rw [Try.params5] at hA hval hsz0
  obtain ⟨v0, vs0, d0, ds0, p0, q0, hargs, rfl, rfl, h0, r0⟩ := trodAll_cons hA
  obtain ⟨rfl, rfl, rfl⟩ := trodAll_nil r0
  obtain rfl : args = #[v0] := by cases args; simp_all
  obtain ⟨rfl, rfl⟩ := trodVars_none hV
  have lt0 : ∀ x ∈ p0, x.block < W.heap.size := by obtain ⟨m, hm⟩ := h0; exact DataW.trod_lt m _ _ _ hm
  obtain ⟨x0, s0, a0⟩ := Vi.arg_okT (Blk H) (u := (.sl (.pair (.int .i64) .str))) (by kernel_rfl) (hval 0 26 v0 rfl rfl) h0 (fun m hm => of_decide_eq_true (List.all_eq_true.1 hsz0 m (DataW.weights_mem_each (j := 0) rfl rfl m hm)))
  have hk1 : Rows.uptoBulk d0 ≤ 1048576 := Nat.le_trans (by simp only [List.append_nil, List.cons_append, List.nil_append, Rows.uptoBulkAll]; exact Nat.le_of_eq (by simp)) (of_decide_eq_true hk)
  have s0 := s0.mono (K' := 1048576) (Nat.le_trans (show (Blk H).b d0 ≤ Rows.uptoBulk d0 from by show Rows.uptoBulk d0 ≤ Rows.uptoBulk d0; omega) hk1)
  clear hA0 hval0 hsz0
  refine (Vi.law_ok Vs.ctr_rectolaw24_WordsTold (v := (x0, ())) (us := [v0]) ⟨s0, rfl⟩ (fun F S μ hF => ⟨a0 F S μ hF, trivial⟩)).mono fun e W' ⟨he, bel⟩ => ?_
  subst he
  exact ⟨_, rfl, _, _, _, [], _, [], hW', trodAll_mk1 (shut_bool Try.underlying4 _), (trodAll_cons_mk (Below.trod laidOut (by kernel_rfl) (of_decide_eq_true (by kernel_rfl)) h0 bel lt0) trodAll_mk0), rfl, bel.frame _, fun h => by cases h⟩
theorem over : Rows.wordsToldUptoRow.holds Try.pinned (Rows.OpenSpec.upto Rows.wordsToldSpec) :=
  OpenClaim.holds_of_cond 5 Try.f5 rfl rfl rfl rfl rfl rfl rfl ⟨rfl, rfl, rfl, rfl, rfl⟩ rfl rfl rfl rfl rfl (by kernel_rfl) Try.func5 (by kernel_rfl)
    (of_decide_eq_true (by kernel_rfl)) (by unfold Func.isWrapper; first | (rw [if_pos (by decide +kernel)]; kernel_rfl) | (rw [if_neg (by decide +kernel)]; exact ⟨rfl, rfl⟩))
    (fun os started H enc _ FF => lifted os started H enc FF)
theorem proved : Rows.WordsToldUptoSaid := over
#print axioms proved
end Go.Proofs.Ytniobmaoangdmaa.wordsTold
namespace Go.Proofs.Ytniobmaoangdmaa
/-- The row, under a short name, for the claim. -/
theorem wordsTold_holds : Rows.WordsToldUptoSaid := wordsTold.proved
end Go.Proofs.Ytniobmaoangdmaa
