/- Three lists lined up: what is told, shown of the conditions. Plain theorems. -/
import Derived.Test.YtgfpmlildhbboaaPlA
import Derived.Test.YtgfpmlildhbboaaVcB
import Derived.Test.YtgfpmlildhbboaaViThree
set_option linter.unnecessarySimpa false
set_option linter.unusedVariables false
set_option linter.unusedSectionVars false
set_option linter.unusedSimpArgs false
set_option autoImplicit false
open Go Vi

namespace Sp
theorem sub_le {α : Type} (l : List α) (i j : Int) : (sub l i j).length ≤ l.length := by
  unfold sub; rw [List.length_drop, List.length_take]; omega
theorem chain_lines (a b : List Str) : ∀ (n i j : Nat), a.length + b.length ≤ n + i + j → i ≤ a.length → j ≤ b.length → Chain a b i j (linesAt i j (a.drop i) (b.drop j)) := by
  intro n
  induction n with
  | zero => intro i j h hi hj; rw [drop_end (by omega), linesAt_nil]; trivial
  | succ n ih =>
    intro i j h hi hj
    by_cases h1 : i < a.length
    · by_cases h2 : j < b.length
      · rw [drop_cons (d := []) h1, drop_cons (d := []) h2, linesAt]
        split
        · rename_i he
          exact ⟨Int.le_refl _, by simpa using h1, Int.le_refl _, by simpa using h2, he, by simpa using ih (i + 1) (j + 1) (by omega) (by omega) (by omega)⟩
        · rw [← drop_cons h1, ← drop_cons h2]
          split
          · have := ih (i + 1) j (by omega) (by omega) (by omega)
            exact chain_mono a b _ this (by omega) (by omega)
          · have := ih i (j + 1) (by omega) (by omega) (by omega)
            exact chain_mono a b _ this (by omega) (by omega)
      · rw [drop_end (l := b) (by omega), linesAt_nil2]; trivial
    · rw [drop_end (by omega), linesAt_nil]; trivial
where
  chain_mono (a b : List Str) : ∀ (l : List Pair) {i j i' j' : Nat}, Chain a b i' j' l → i ≤ i' → j ≤ j' → Chain a b i j l
    | [], _, _, _, _, _, _, _ => trivial
    | x :: l, i, j, i', j', h, h1, h2 => by
      obtain ⟨a1, a2, a3, a4, a5, a6⟩ := h
      exact ⟨by omega, a2, by omega, a4, a5, a6⟩
theorem chain_rises (a b : List Str) : ∀ (l : List Pair) (i j : Nat), Chain a b i j l → Rises a.length b.length i j l
  | [], _, _, _ => trivial
  | x :: l, i, j, h => by
    obtain ⟨a1, a2, a3, a4, _, a6⟩ := h
    exact ⟨a1, a2, a3, a4, chain_rises a b l _ _ a6⟩
theorem lines_chain (a b : List Str) : Chain a b 0 0 (lines a b) := by
  exact chain_lines a b (a.length + b.length) 0 0 (by omega) (by omega) (by omega)
theorem lines_rises (a b : List Str) : Rises a.length b.length 0 0 (lines a b) := chain_rises a b _ _ _ (lines_chain a b)
def Le3 (f t : Tri) : Prop := f.1 ≤ t.1 ∧ f.2.1 ≤ t.2.1 ∧ f.2.2 ≤ t.2.2
end Sp

namespace Sp
theorem Le3.trans {f g h : Tri} (h1 : Le3 f g) (h2 : Le3 g h) : Le3 f h := by unfold Le3 at *; omega
theorem nth_map {α β : Type} (g : α → β) (l : List α) (p : Nat) (d : α) (d' : β) (h : p < l.length) : nth (l.map g) (p : Int) d' = g (nth l (p : Int) d) := by
  rw [nth_lt (by simpa using h), nth_lt h, List.getElem_map]

end Sp

namespace Sp
abbrev d0 : PartA := (0, (0, 0, 0), (0, 0, 0))
end Sp

namespace Sp
end Sp

namespace Sp
end Sp

namespace Sp
end Sp

namespace Sp
end Sp

namespace Sp
def swap (t : Tri) : Tri := (t.1, t.2.2, t.2.1)
/-- One piece, and the same one turned. -/
def Tw (o a b : List Str) (p q : PartA) : Prop := q.2.1 = swap p.2.1 ∧ q.2.2 = swap p.2.2 ∧ ((p.1 = 1 ∧ q.1 = 1) ∨ (p.1 = kdT o a b p.2.1 p.2.2 ∧ q.1 = kdT o b a q.2.1 q.2.2 ∧ p.1 ≠ 0 ∧ q.1 ≠ 0))
def Tws (o a b : List Str) : List PartA → List PartA → Prop
  | [], [] => True
  | p :: l, q :: m => Tw o a b p q ∧ Tws o a b l m
  | _, _ => False
theorem Tws.nth {o a b : List Str} {d : PartA} : ∀ {l m : List PartA}, Tws o a b l m → ∀ p, p < l.length → Tw o a b (nth l (p : Int) d) (nth m (p : Int) d)
  | x :: l, y :: m, h, 0, _ => h.1
  | x :: l, y :: m, h, p + 1, hp => Tws.nth h.2 p (by simpa using hp)
end Sp
