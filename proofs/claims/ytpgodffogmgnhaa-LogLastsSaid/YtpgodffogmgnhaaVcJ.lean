/- Conditions of functions. Written by a program of this session. -/
import Derived.Test.YtpgodffogmgnhaaSpJ
set_option linter.unnecessarySimpa false
set_option linter.unusedVariables false
set_option linter.unusedSectionVars false
set_option linter.unusedSimpArgs false
set_option autoImplicit false
set_option linter.unusedVariables false
open Go Vi

def rectolaw29_LogLasts.L1 (R : Bool →
  Prop) (A : List
  Int) (t14 : Int) (t95 : List
  (List
    UInt8)) (t96 : Int) (t97 : Int) (t7_down : Bool) (t7_armed : Bool) (t7_after : Int) (t7_acut : Bool) (t7_keep : List
  Int) (t7_bs : List
  (List
    (List
      UInt8))) (t7_ws : List
  (Int ×
    List
      (List
        UInt8))) (t9_from_ : Int) (t9_blocks : Int) (t9_b : List
  UInt8) (t9_sealed : Int) (t11 : List
  (List
    UInt8)) (K1 : List Int ×
    Int ×
      List (List UInt8) ×
        Int × Int × Bool × Bool × Int × Bool × List Int × List (List (List UInt8)) × List (Int × List (List UInt8)) × Int × Int × List UInt8 × Int × List (List UInt8) × Unit →
  Prop) : Prop :=
  bif decide (t97 < t96) then
    Ix t97 t95.length ∧
      bif decide (70000 < (↑(List.length (nth t95 t97 [])) : Int)) then R Sp.tt
      else
        Sp.lOk (t9_from_, t9_blocks, t9_b, t9_sealed) ∧
          Sp.lPre (Sp.lAdd (nth t95 t97 []) (t9_from_, t9_blocks, t9_b, t9_sealed)).fst (t7_down, t7_armed, t7_after, t7_acut, t7_keep, t7_bs, t7_ws) ∧
            bif !decide ((Sp.lWrite (Sp.lAdd (nth t95 t97 []) (t9_from_, t9_blocks, t9_b, t9_sealed)).fst (t7_down, t7_armed, t7_after, t7_acut, t7_keep, t7_bs, t7_ws)).snd = 0) then R false
            else
              Rg IntKind.i64 (t97 + 1) ∧
                K1
                  (A, t14, t95, t96, t97 + 1,
                    (Sp.lWrite (Sp.lAdd (nth t95 t97 []) (t9_from_, t9_blocks, t9_b, t9_sealed)).fst (t7_down, t7_armed, t7_after, t7_acut, t7_keep, t7_bs, t7_ws)).fst.fst,
                    (Sp.lWrite (Sp.lAdd (nth t95 t97 []) (t9_from_, t9_blocks, t9_b, t9_sealed)).fst (t7_down, t7_armed, t7_after, t7_acut, t7_keep, t7_bs, t7_ws)).fst.snd.fst,
                    (Sp.lWrite (Sp.lAdd (nth t95 t97 []) (t9_from_, t9_blocks, t9_b, t9_sealed)).fst (t7_down, t7_armed, t7_after, t7_acut, t7_keep, t7_bs, t7_ws)).fst.snd.snd.fst,
                    (Sp.lWrite (Sp.lAdd (nth t95 t97 []) (t9_from_, t9_blocks, t9_b, t9_sealed)).fst (t7_down, t7_armed, t7_after, t7_acut, t7_keep, t7_bs, t7_ws)).fst.snd.snd.snd.fst,
                    (Sp.lWrite (Sp.lAdd (nth t95 t97 []) (t9_from_, t9_blocks, t9_b, t9_sealed)).fst (t7_down, t7_armed, t7_after, t7_acut, t7_keep, t7_bs, t7_ws)).fst.snd.snd.snd.snd.fst,
                    (Sp.lWrite (Sp.lAdd (nth t95 t97 []) (t9_from_, t9_blocks, t9_b, t9_sealed)).fst
                                    (t7_down, t7_armed, t7_after, t7_acut, t7_keep, t7_bs, t7_ws)).fst.snd.snd.snd.snd.snd.fst,
                    (Sp.lWrite (Sp.lAdd (nth t95 t97 []) (t9_from_, t9_blocks, t9_b, t9_sealed)).fst
                                    (t7_down, t7_armed, t7_after, t7_acut, t7_keep, t7_bs, t7_ws)).fst.snd.snd.snd.snd.snd.snd,
                    (Sp.lAdd (nth t95 t97 []) (t9_from_, t9_blocks, t9_b, t9_sealed)).fst.fst, (Sp.lAdd (nth t95 t97 []) (t9_from_, t9_blocks, t9_b, t9_sealed)).fst.snd.fst,
                    (Sp.lAdd (nth t95 t97 []) (t9_from_, t9_blocks, t9_b, t9_sealed)).fst.snd.snd.fst, (Sp.lAdd (nth t95 t97 []) (t9_from_, t9_blocks, t9_b, t9_sealed)).fst.snd.snd.snd, t11,
                    ())
  else
    Sp.dFall.pre A (t7_down, t7_armed, t7_after, t7_acut, t7_keep, t7_bs, t7_ws) ∧
      bif !decide ((Sp.dCrash A (t7_down, t7_armed, t7_after, t7_acut, t7_keep, t7_bs, t7_ws)).snd = 0) then R false
      else
        Sp.dPre (Sp.dCrash A (t7_down, t7_armed, t7_after, t7_acut, t7_keep, t7_bs, t7_ws)).fst ∧
          bif !decide ((Sp.dStart (Sp.dCrash A (t7_down, t7_armed, t7_after, t7_acut, t7_keep, t7_bs, t7_ws)).fst).snd = 0) then R false
          else
            Sp.dPre9 (Sp.dStart (Sp.dCrash A (t7_down, t7_armed, t7_after, t7_acut, t7_keep, t7_bs, t7_ws)).fst).fst ∧
              bif Sp.opNil 2 6 t14 (Sp.dStart (Sp.dCrash A (t7_down, t7_armed, t7_after, t7_acut, t7_keep, t7_bs, t7_ws)).fst).fst then
                bif decide (Sp.opErr 2 6 t14 (Sp.dStart (Sp.dCrash A (t7_down, t7_armed, t7_after, t7_acut, t7_keep, t7_bs, t7_ws)).fst).fst = 0) then R false else R false
              else
                Sp.lOk (2, 6, Sp.opS 2 t14 (Sp.dStart (Sp.dCrash A (t7_down, t7_armed, t7_after, t7_acut, t7_keep, t7_bs, t7_ws)).fst).fst, t14) ∧
                  Sp.eqL.pre (Sp.lRecs (2, 6, Sp.opS 2 t14 (Sp.dStart (Sp.dCrash A (t7_down, t7_armed, t7_after, t7_acut, t7_keep, t7_bs, t7_ws)).fst).fst, t14)) t11 ∧
                    bif Sp.eqL (Sp.lRecs (2, 6, Sp.opS 2 t14 (Sp.dStart (Sp.dCrash A (t7_down, t7_armed, t7_after, t7_acut, t7_keep, t7_bs, t7_ws)).fst).fst, t14)) t11 then
                      bif decide (Sp.lSealed (2, 6, Sp.opS 2 t14 (Sp.dStart (Sp.dCrash A (t7_down, t7_armed, t7_after, t7_acut, t7_keep, t7_bs, t7_ws)).fst).fst, t14) = t14) then
                        bif decide (Sp.lBytes (2, 6, Sp.opS 2 t14 (Sp.dStart (Sp.dCrash A (t7_down, t7_armed, t7_after, t7_acut, t7_keep, t7_bs, t7_ws)).fst).fst, t14) = t14) then R Sp.tt
                        else R false
                      else R false
                    else R false
def rectolaw29_LogLasts.L0 (R : Bool →
  Prop) (o : List
  (List
    UInt8)) (A : List
  Int) (t64 : List
  (List
    UInt8)) (t65 : Int) (t66 : Int) (t7_down : Bool) (t7_armed : Bool) (t7_after : Int) (t7_acut : Bool) (t7_keep : List
  Int) (t7_bs : List
  (List
    (List
      UInt8))) (t7_ws : List
  (Int ×
    List
      (List
        UInt8))) (t9_from_ : Int) (t9_blocks : Int) (t9_b : List
  UInt8) (t9_sealed : Int) (t11 : List
  (List
    UInt8)) (K0 : List (List UInt8) ×
    List Int ×
      List (List UInt8) ×
        Int × Int × Bool × Bool × Int × Bool × List Int × List (List (List UInt8)) × List (Int × List (List UInt8)) × Int × Int × List UInt8 × Int × List (List UInt8) × Unit →
  Prop) : Prop :=
  bif decide (t66 < t65) then
    Ix t66 t64.length ∧
      bif decide (70000 < (↑(List.length (nth t64 t66 [])) : Int)) then R Sp.tt
      else
        Sp.lOk (t9_from_, t9_blocks, t9_b, t9_sealed) ∧
          bif decide ((Sp.lAdd (nth t64 t66 []) (t9_from_, t9_blocks, t9_b, t9_sealed)).snd = 0) then
            Gr t11.length 1 16 ∧
              Rg IntKind.i64 (t66 + 1) ∧
                K0
                  (o, A, t64, t65, t66 + 1, t7_down, t7_armed, t7_after, t7_acut, t7_keep, t7_bs, t7_ws, (Sp.lAdd (nth t64 t66 []) (t9_from_, t9_blocks, t9_b, t9_sealed)).fst.fst,
                    (Sp.lAdd (nth t64 t66 []) (t9_from_, t9_blocks, t9_b, t9_sealed)).fst.snd.fst, (Sp.lAdd (nth t64 t66 []) (t9_from_, t9_blocks, t9_b, t9_sealed)).fst.snd.snd.fst,
                    (Sp.lAdd (nth t64 t66 []) (t9_from_, t9_blocks, t9_b, t9_sealed)).fst.snd.snd.snd, t11 ++ [nth t64 t66 []], ())
          else
            Rg IntKind.i64 (t66 + 1) ∧
              K0
                (o, A, t64, t65, t66 + 1, t7_down, t7_armed, t7_after, t7_acut, t7_keep, t7_bs, t7_ws, (Sp.lAdd (nth t64 t66 []) (t9_from_, t9_blocks, t9_b, t9_sealed)).fst.fst,
                  (Sp.lAdd (nth t64 t66 []) (t9_from_, t9_blocks, t9_b, t9_sealed)).fst.snd.fst, (Sp.lAdd (nth t64 t66 []) (t9_from_, t9_blocks, t9_b, t9_sealed)).fst.snd.snd.fst,
                  (Sp.lAdd (nth t64 t66 []) (t9_from_, t9_blocks, t9_b, t9_sealed)).fst.snd.snd.snd, t11, ())
  else
    Sp.lPre (t9_from_, t9_blocks, t9_b, t9_sealed) (t7_down, t7_armed, t7_after, t7_acut, t7_keep, t7_bs, t7_ws) ∧
      bif !decide ((Sp.lWrite (t9_from_, t9_blocks, t9_b, t9_sealed) (t7_down, t7_armed, t7_after, t7_acut, t7_keep, t7_bs, t7_ws)).snd = 0) then R false
      else
        Sp.dPre (Sp.lWrite (t9_from_, t9_blocks, t9_b, t9_sealed) (t7_down, t7_armed, t7_after, t7_acut, t7_keep, t7_bs, t7_ws)).fst ∧
          bif !decide ((Sp.dFlush (Sp.lWrite (t9_from_, t9_blocks, t9_b, t9_sealed) (t7_down, t7_armed, t7_after, t7_acut, t7_keep, t7_bs, t7_ws)).fst).snd = 0) then R false
          else
            Lp
              (fun v K =>
                rectolaw29_LogLasts.L1 R v.fst v.snd.fst v.snd.snd.fst v.snd.snd.snd.fst v.snd.snd.snd.snd.fst v.snd.snd.snd.snd.snd.fst v.snd.snd.snd.snd.snd.snd.fst
                  v.snd.snd.snd.snd.snd.snd.snd.fst v.snd.snd.snd.snd.snd.snd.snd.snd.fst v.snd.snd.snd.snd.snd.snd.snd.snd.snd.fst v.snd.snd.snd.snd.snd.snd.snd.snd.snd.snd.fst
                  v.snd.snd.snd.snd.snd.snd.snd.snd.snd.snd.snd.fst v.snd.snd.snd.snd.snd.snd.snd.snd.snd.snd.snd.snd.fst v.snd.snd.snd.snd.snd.snd.snd.snd.snd.snd.snd.snd.snd.fst
                  v.snd.snd.snd.snd.snd.snd.snd.snd.snd.snd.snd.snd.snd.snd.fst v.snd.snd.snd.snd.snd.snd.snd.snd.snd.snd.snd.snd.snd.snd.snd.fst
                  v.snd.snd.snd.snd.snd.snd.snd.snd.snd.snd.snd.snd.snd.snd.snd.snd.fst K)
              (A, Sp.lSealed (Sp.lSeal (t9_from_, t9_blocks, t9_b, t9_sealed)), o, (↑o.length : Int), 0,
                (Sp.dFlush (Sp.lWrite (t9_from_, t9_blocks, t9_b, t9_sealed) (t7_down, t7_armed, t7_after, t7_acut, t7_keep, t7_bs, t7_ws)).fst).fst.fst,
                (Sp.dFlush (Sp.lWrite (t9_from_, t9_blocks, t9_b, t9_sealed) (t7_down, t7_armed, t7_after, t7_acut, t7_keep, t7_bs, t7_ws)).fst).fst.snd.fst,
                (Sp.dFlush (Sp.lWrite (t9_from_, t9_blocks, t9_b, t9_sealed) (t7_down, t7_armed, t7_after, t7_acut, t7_keep, t7_bs, t7_ws)).fst).fst.snd.snd.fst,
                (Sp.dFlush (Sp.lWrite (t9_from_, t9_blocks, t9_b, t9_sealed) (t7_down, t7_armed, t7_after, t7_acut, t7_keep, t7_bs, t7_ws)).fst).fst.snd.snd.snd.fst,
                (Sp.dFlush (Sp.lWrite (t9_from_, t9_blocks, t9_b, t9_sealed) (t7_down, t7_armed, t7_after, t7_acut, t7_keep, t7_bs, t7_ws)).fst).fst.snd.snd.snd.snd.fst,
                (Sp.dFlush (Sp.lWrite (t9_from_, t9_blocks, t9_b, t9_sealed) (t7_down, t7_armed, t7_after, t7_acut, t7_keep, t7_bs, t7_ws)).fst).fst.snd.snd.snd.snd.snd.fst,
                (Sp.dFlush (Sp.lWrite (t9_from_, t9_blocks, t9_b, t9_sealed) (t7_down, t7_armed, t7_after, t7_acut, t7_keep, t7_bs, t7_ws)).fst).fst.snd.snd.snd.snd.snd.snd,
                (Sp.lSeal (t9_from_, t9_blocks, t9_b, t9_sealed)).fst, (Sp.lSeal (t9_from_, t9_blocks, t9_b, t9_sealed)).snd.fst,
                (Sp.lSeal (t9_from_, t9_blocks, t9_b, t9_sealed)).snd.snd.fst, (Sp.lSeal (t9_from_, t9_blocks, t9_b, t9_sealed)).snd.snd.snd, t11, ())
def rectolaw29_LogLasts.vc (R : Bool → Prop) (t : List Str) (o : List Str) (A : List Int) : Prop :=
  bif decide (30 < (↑t.length : Int)) then R Sp.tt
  else
    bif decide (30 < (↑o.length : Int)) then R Sp.tt
    else
      bif decide (40 < (↑A.length : Int)) then R Sp.tt
      else
        Sp.dPre9 (false, false, (Sp.dNew 8).snd.snd.fst, false, (Sp.dNew 8).snd.snd.snd.snd) ∧
          Lp
            (fun v K =>
              rectolaw29_LogLasts.L0 R v.fst v.snd.fst v.snd.snd.fst v.snd.snd.snd.fst v.snd.snd.snd.snd.fst v.snd.snd.snd.snd.snd.fst v.snd.snd.snd.snd.snd.snd.fst
                v.snd.snd.snd.snd.snd.snd.snd.fst v.snd.snd.snd.snd.snd.snd.snd.snd.fst v.snd.snd.snd.snd.snd.snd.snd.snd.snd.fst v.snd.snd.snd.snd.snd.snd.snd.snd.snd.snd.fst
                v.snd.snd.snd.snd.snd.snd.snd.snd.snd.snd.snd.fst v.snd.snd.snd.snd.snd.snd.snd.snd.snd.snd.snd.snd.fst v.snd.snd.snd.snd.snd.snd.snd.snd.snd.snd.snd.snd.snd.fst
                v.snd.snd.snd.snd.snd.snd.snd.snd.snd.snd.snd.snd.snd.snd.fst v.snd.snd.snd.snd.snd.snd.snd.snd.snd.snd.snd.snd.snd.snd.snd.fst
                v.snd.snd.snd.snd.snd.snd.snd.snd.snd.snd.snd.snd.snd.snd.snd.snd.fst K)
            (o, A, t, (↑t.length : Int), 0, false, false, (Sp.dNew 8).snd.snd.fst, false, (Sp.dNew 8).snd.snd.snd.snd.fst, (Sp.dNew 8).snd.snd.snd.snd.snd.fst,
              (Sp.dNew 8).snd.snd.snd.snd.snd.snd, 2, 6, Sp.opS 2 0 (false, false, (Sp.dNew 8).snd.snd.fst, false, (Sp.dNew 8).snd.snd.snd.snd), 0, [], ())

