/- Conditions of functions. Written by a program of this session. -/
import Derived.Test.YtgfpmlildhbboaaSpB
set_option linter.unnecessarySimpa false
set_option linter.unusedVariables false
set_option linter.unusedSectionVars false
set_option linter.unusedSimpArgs false
set_option autoImplicit false
set_option linter.unusedVariables false
open Go Vi

def blend_fellow_1.vc (R : Bool → Int → Prop) (p : Int × Int × Bool) (at_ : Int) : Prop :=
  R (decide (p.fst = at_)) at_

def slices_IndexFunc_match_Pair_match_Pair.L0 (R : Int →
  Int → Prop) (s : List (Int × Int × Bool)) (t7 : Int) (t8 : Int) (at_ : Int) (K0 : List (Int × Int × Bool) × Int × Int × Int × Unit → Prop) : Prop :=
  bif decide (t8 < t7) then Ix t8 s.length ∧ bif Sp.isA (nth s t8 (0, 0, false)) at_ then R t8 at_ else Rg IntKind.i64 (t8 + 1) ∧ K0 (s, t7, t8 + 1, at_, ()) else R (-1) at_
def slices_IndexFunc_match_Pair_match_Pair.vc (R : Int → Int → Prop) (l : List (Int × Int × Bool)) (at_ : Int) : Prop :=
  Lp (fun v K => slices_IndexFunc_match_Pair_match_Pair.L0 R v.fst v.snd.fst v.snd.snd.fst v.snd.snd.snd.fst K) (l, (↑l.length : Int), 0, at_, ())

def blend_fellow.vc (R : Int → Prop) (l : List (Int × Int × Bool)) (at_ : Int) : Prop :=
  Sp.idxA.pre l ∧ bif decide (0 ≤ Sp.idxA l at_) then Ix (Sp.idxA l at_) l.length ∧ R (nth l (Sp.idxA l at_) (0, 0, false)).snd.fst else R (-1)
