/- A builder's copy check, walked: it lays the builder's own address. -/
import Derived.Test.YtmciagbogdlcoaaGreatDoorProg
import Derived.Lib.Builder
import Derived.WalkKit
import Derived.Laws.Externs
import Derived.Test.YtmciagbogdlcoaaGreatDoorViThree
set_option linter.unnecessarySimpa false
set_option linter.unusedVariables false
set_option linter.unusedSectionVars false
set_option linter.unusedSimpArgs false
set_option linter.unusedVariables false
namespace Vs
open Go Vi Go.Proofs Go.RowKit

theorem cpy_info : ∃ j, Tryz.prog.info? 84 = some j ∧ j.size = 2 := Option.map_eq_some_iff.1 (show (Tryz.prog.info? 84).map (·.size) = some 2 by kernel_rfl)
theorem cpy_up : Tryz.prog.underlying 81 = some (.pointer 84) := by kernel_rfl
theorem cpy_uu : Tryz.prog.underlying 118 = some .unsafePointer := by kernel_rfl

set_option maxHeartbeats 1000000 in
set_option maxRecDepth 100000 in
theorem cpy_used (b : Nat) (w : World) (h0 : w.cell? ⟨b, 0, none⟩ = some (.pointer (some ⟨b, 0, none⟩))) :
    Calls Tryz.prog 64 #[.pointer (some ⟨b, 0, none⟩)] w fun e w' => e = .returned (.tuple #[]) ∧ w' = w := by
  obtain ⟨j, hj, hjs⟩ := cpy_info
  go_enter Tryz.func64, Tryz.ntmps64
  go_wp2
  rw [Lib.run_neq_ptr_same w _ cpy_up hj]
  go_wp2
  go_end0
  exact ⟨rfl, rfl⟩

set_option maxHeartbeats 1000000 in
set_option maxRecDepth 100000 in
theorem cpy_fresh_84 (b : Nat) (w : World) (h0 : w.cell? ⟨b, 0, none⟩ = some (.pointer none)) (hsh : w.shape? b = some (84, 2)) (hfz : w.frozen? ⟨b, 0, none⟩ = false) :
    Calls Tryz.prog 64 #[.pointer (some ⟨b, 0, none⟩)] w fun e w' => e = .returned (.tuple #[]) ∧ w' = w.setCell ⟨b, 0, none⟩ (.pointer (some ⟨b, 0, none⟩)) := by
  obtain ⟨j, hj, hjs⟩ := cpy_info
  go_enter Tryz.func64, Tryz.ntmps64
  go_wp2
  rw [Lib.run_to_unsafe w ⟨b, 0, none⟩ cpy_up cpy_uu hj (by rw [hjs]; decide) hsh (Nat.zero_lt_succ 1)]
  simp only [Result.andThen]
  rw [Oper.upon_value]
  go_wp2
  rw [run_callFunc_extern Tryz.func78 (by kernel_rfl) (by kernel_rfl) (by kernel_rfl) (e := Extern.AbiNoEscape.same) (by kernel_rfl)]
  rw [Lib.run_noEscape]
  simp only [Result.andThen]
  rw [Oper.upon_value]
  go_wp2
  rw [Lib.run_from_unsafe w ⟨b, 0, none⟩ cpy_uu cpy_up hj hsh (by kernel_rfl)]
  simp only [Result.andThen]
  rw [Oper.upon_value]
  go_wp2
  go_end0
  exact ⟨rfl, rfl⟩

theorem cpyOk_84 : CpyOk Tryz.prog 64 84 := ⟨⟨_, Tryz.func64, by kernel_rfl, by kernel_rfl⟩, fun w b v0 v1 hh h0 => by
  have hc : w.cell? ⟨b, 0, none⟩ = some v0 := by simp [World.cell?, hh]
  rcases h0 with rfl | rfl
  · refine Calls.mono (cpy_fresh_84 b w hc (by simp [World.shape?, hh]) (by simp [World.frozen?, hh])) fun e w' h => ?_
    obtain ⟨rfl, rfl⟩ := h
    exact ⟨rfl, .inl rfl⟩
  · refine Calls.mono (cpy_used b w hc) fun e w' h => ?_
    obtain ⟨rfl, rfl⟩ := h
    exact ⟨rfl, .inr ⟨rfl, rfl⟩⟩⟩
theorem cpyAll : ∀ f T, find none [(64, some [84])] f = some T → CpysOk Tryz.prog f T := by
  intro f T h
  unfold find at h
  cases hb : Nat.beq f 64 with
  | true =>
    rw [hb] at h
    have := Nat.eq_of_beq_eq_true hb
    subst this
    cases h
    exact ⟨⟨_, Tryz.func64, by kernel_rfl, by kernel_rfl⟩, fun T hT => by
      have hT := memb_iff.1 hT
      simp only [List.mem_cons, List.mem_nil_iff, or_false] at hT
      subst hT
      exact cpyOk_84⟩
  | false => rw [hb] at h; cases h
end Vs
