/- Addresses: what is told, shown of the conditions. Plain theorems. -/
import Derived.Test.YtmciagbogdlcoaaDoorVcU
import Derived.Test.YtmciagbogdlcoaaDoorViThree
import Derived.Lib.Bytealg
set_option linter.unnecessarySimpa false
set_option linter.unusedVariables false
set_option linter.unusedSectionVars false
set_option linter.unusedSimpArgs false
set_option autoImplicit false
open Go Vi

namespace Sp
theorem ints_app (a b : Str) : ints (a ++ b) = ints a ++ ints b := by simp [ints]
theorem bytesOf_ints (s : Str) : bytesOf (ints s) = s := by
  unfold bytesOf ints
  rw [List.map_map]
  conv => rhs; rw [← List.map_id s]
  refine List.map_congr_left fun x _ => ?_
  simp
end Sp

theorem strings_Builder_String.ok (R : List UInt8 → Prop) (x : List Int) (hR : R (bytesOf x)) : strings_Builder_String.vc R x := ⟨rfl, hR⟩
theorem strings_Builder_WriteByte.ok (R : List Int → Prop) (b : Int) (x : List Int) (h : Sp.wb.pre x b) (hR : R (Sp.wb x b)) : strings_Builder_WriteByte.vc R b x :=
  ⟨by unfold Sp.wb.pre at h; unfold Gr; omega, hR⟩

namespace Sp
end Sp

namespace Sp
theorem wb_ints (a : Str) (x : UInt8) : wb (ints a) (x.toNat : Int) = ints (a ++ [x]) := by rw [ints_app]; rfl
end Sp

/-! The document's. -/

namespace Sp
end Sp

namespace Sp
end Sp

namespace Sp
end Sp
theorem rectoref07_In.ok (R : Bool → Prop) (x : Str) (l : List Str) (h : Sp.inS.pre x l) (hR : R (Sp.inS x l)) : rectoref07_In.vc R x l := by
  unfold Sp.inS.pre at h
  unfold rectoref07_In.vc
  unfold Sp.inS at hR
  refine Lp_rule (fun w => ∃ p : Nat, w = (x, l, (l.length : Int), (p : Int), ()) ∧ p ≤ l.length ∧ x ∉ l.take p) (fun w => l.length - w.2.2.2.1.toNat) ?_ ⟨0, rfl, Nat.zero_le _, by simp⟩
  rintro _ K ⟨p, rfl, hp, hn⟩ hK
  simp only [rectoref07_In.L0, cond_dec, ix_iff, rg64]
  split
  · rename_i c1
    have hp' : p < l.length := by omega
    have hts := take_succ (d := ([] : Str)) hp'
    refine ⟨by omega, ?_⟩
    split
    · rename_i c2
      have : x ∈ l := (List.take_subset (p + 1) l) (by rw [hts, c2]; simp)
      rw [decide_eq_true this] at hR
      exact hR
    · rename_i c2
      refine ⟨by omega, hK _ ⟨p + 1, rfl, by omega, ?_⟩ (by simp; omega)⟩
      rw [hts]
      intro hm
      rcases List.mem_append.1 hm with hm | hm
      · exact hn hm
      · exact c2 (List.mem_singleton.1 hm).symm
  · have : p = l.length := by omega
    subst this
    rw [List.take_length] at hn
    rw [decide_eq_false hn] at hR
    exact hR

/-! The document's parts, in stages. -/
namespace Sp
end Sp

namespace Sp
end Sp
