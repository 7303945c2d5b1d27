/- Right nodes, and equal ones: what is told, shown of the conditions. Plain theorems. -/
import Derived.Test.YtmciagbogdlcoaaDoorVcK
import Derived.Test.YtmciagbogdlcoaaDoorPlH
set_option linter.unnecessarySimpa false
set_option linter.unusedVariables false
set_option linter.unusedSectionVars false
set_option linter.unusedSimpArgs false
set_option autoImplicit false
open Go Vi

namespace Sp
mutual
theorem ndB_eq : ∀ a b : Vi.Node, ndB a b = true ↔ a = b
  | .mk k s n a t c, .mk k' s' n' a' t' c' => by
    rw [ndB]
    simp only [Bool.and_eq_true, decide_eq_true_eq, Vi.Node.mk.injEq, nlB_eq c c']
    constructor
    · rintro ⟨⟨⟨⟨⟨h1, h2⟩, h3⟩, h4⟩, h5⟩, h6⟩; exact ⟨h1, h2, h3, h5, h4, h6⟩
    · rintro ⟨h1, h2, h3, h5, h4, h6⟩; exact ⟨⟨⟨⟨⟨h1, h2⟩, h3⟩, h4⟩, h5⟩, h6⟩
theorem nlB_eq : ∀ a b : List Vi.Node, nlB a b = true ↔ a = b
  | [], [] => by simp [nlB]
  | [], _ :: _ => by simp [nlB]
  | _ :: _, [] => by simp [nlB]
  | x :: l, y :: m => by
    rw [nlB]
    simp only [Bool.and_eq_true, ndB_eq x y, nlB_eq l m, List.cons.injEq]
end
end Sp
namespace Sp
end Sp
namespace Sp
end Sp
/- Right nodes: what is told, shown of the conditions. Plain theorems. -/

namespace Sp
end Sp
namespace Sp
mutual
theorem dpN_rg : ∀ n : Vi.Node, 0 ≤ dpN n ∧ dpN n ≤ szN n
  | .mk k _ _ _ _ c => by
    have := dpL_rg c
    rw [dpN, szN]
    split <;> omega
theorem dpL_rg : ∀ l : List Vi.Node, 0 ≤ dpL l ∧ dpL l ≤ szL l
  | [] => by rw [dpL, szL]; exact ⟨Int.le_refl _, Int.le_refl _⟩
  | n :: l => by
    have := dpN_rg n
    have := dpL_rg l
    rw [dpL, szL]
    split <;> omega
end
end Sp
/- Right nodes; unlike nodes have unlike texts. Plain theorems. -/

namespace Sp
end Sp
/- Unlike nodes have unlike texts. Plain theorems. -/

namespace Sp
end Sp