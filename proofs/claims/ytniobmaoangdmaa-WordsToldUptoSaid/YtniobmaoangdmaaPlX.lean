/- What pieces tell: what is told, shown of the condition. Plain theorems. -/
import Derived.Test.YtniobmaoangdmaaVcX
import Derived.Test.YtniobmaoangdmaaPlW
set_option linter.unnecessarySimpa false
set_option linter.unusedVariables false
set_option linter.unusedSectionVars false
set_option linter.unusedSimpArgs false
set_option autoImplicit false
open Go Vi

theorem Vi.SzT.mono {K K' : Nat} {u : Ty} {x : u.D} (h : SzT K u x) (hk : K ≤ K') : SzT K' u x := by
  obtain ⟨F, w, l, h, T, hT, hK⟩ := h
  exact ⟨F, w, l, h, T, hT, Nat.le_trans hK hk⟩
namespace Sp
theorem lim_total {B : Nat} : ∀ (l : List Piece) (f : Nat → Nat), (∀ j (h : j < l.length), Lim B (.pair (.int .i64) .str) l[j] (f j)) → l.length + total l ≤ ((List.range l.length).map f).sum
  | [], f, _ => by simp [total]
  | p :: l, f, h => by
    have h0 := h 0 (by simp)
    obtain ⟨T1, T2, g1, g2, e⟩ := h0.pair_inv
    have e2 := g2.str_inv.2
    have ih := lim_total l (f ∘ Nat.succ) (fun j hj => by have := h (j + 1) (by simp; omega); simpa using this)
    rw [List.length_cons, List.range_succ_eq_map, List.map_cons, List.map_map, List.sum_cons, total]
    simp only [List.getElem_cons_zero] at e2
    omega
theorem szT_total {K : Nat} {l : List Piece} (h : SzT K (.sl (.pair (.int .i64) .str)) l) : l.length + total l ≤ K := by
  obtain ⟨F, w, c, h, T, hT, hK⟩ := h
  obtain ⟨f, g1, g2, rfl⟩ := hT.sl_inv
  have := lim_total l f g2
  have e : ((List.range (List.length l)).map f).sum + 1 ≤ K := hK
  omega
end Sp

theorem rectolaw24_WordsTold.ok (R : Bool → Prop) (l : List (Int × Str)) (h : SzT 1048576 (.sl (.pair (.int .i64) .str)) l) (hR : R Sp.tt) : rectolaw24_WordsTold.vc R l := by
  have ht := Sp.szT_total h
  unfold rectolaw24_WordsTold.vc
  rw [cond_dec]
  split
  · exact hR
  · rename_i c
    have h1 : l.length ≤ 1000000000 := by omega
    have h2 : Sp.total l ≤ 1000000000 := by omega
    have e1 : Sp.oldP l = Sp.toldK (Sp.refP l) 2 := rfl
    have e2 : Sp.newP l = Sp.toldK (Sp.refP l) 3 := rfl
    have e3 : Sp.marks l = Sp.marks (Sp.refP l) := rfl
    rw [decide_eq_true e1, decide_eq_true e2, decide_eq_true e3]
    exact ⟨show l.length ≤ 1000000 by omega, Sp.told_ok h1 h2, Sp.told_ok h1 h2, Sp.told_ok h1 h2, Sp.told_ok h1 h2, Sp.marks_ok h1 h2, Sp.marks_ok h1 h2, hR⟩
