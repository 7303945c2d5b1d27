/- Addresses: what is told, shown of the conditions. Plain theorems. -/
import Derived.Test.YtmciagbogdlcoaaDoorVcU
import Derived.Test.YtmciagbogdlcoaaDoorViThree
import Derived.Lib.Bytealg
set_option linter.unnecessarySimpa false
set_option linter.unusedVariables false
set_option linter.unusedSectionVars false
set_option linter.unusedSimpArgs false
set_option autoImplicit false
open Go Vi

namespace Sp
theorem ints_app (a b : Str) : ints (a ++ b) = ints a ++ ints b := by simp [ints]
theorem bytesOf_ints (s : Str) : bytesOf (ints s) = s := by
  unfold bytesOf ints
  rw [List.map_map]
  conv => rhs; rw [← List.map_id s]
  refine List.map_congr_left fun x _ => ?_
  simp
end Sp

theorem strings_Builder_String.ok (R : List UInt8 → Prop) (x : List Int) (hR : R (bytesOf x)) : strings_Builder_String.vc R x := ⟨rfl, hR⟩
theorem strings_Builder_WriteByte.ok (R : List Int → Prop) (b : Int) (x : List Int) (h : Sp.wb.pre x b) (hR : R (Sp.wb x b)) : strings_Builder_WriteByte.vc R b x :=
  ⟨by unfold Sp.wb.pre at h; unfold Gr; omega, hR⟩

namespace Sp
end Sp

namespace Sp
theorem wb_ints (a : Str) (x : UInt8) : wb (ints a) (x.toNat : Int) = ints (a ++ [x]) := by rw [ints_app]; rfl
end Sp

/-! The document's. -/

namespace Sp
end Sp

namespace Sp
end Sp

namespace Sp
end Sp
/-! The document's parts, in stages. -/
namespace Sp
end Sp

namespace Sp
end Sp
